import Derived.Test.YtpcajamacpbjcaaGreatZKHeap
set_option maxHeartbeats 16000000
set_option maxRecDepth 100000
set_option linter.all false
namespace Go.Proofs.YtpcajamacpbjcaaGreat
variable {fn:Func}{seen:List Bool}{G todo:List Nat}{xs:List Value}{B H a b c g i j k n sz x:Nat}{A:Option Addr}{p q:Tmp}{e t:TypeId}{u:Value}{W w w':World}
open Go.Proofs.Tryz
structure Sl where
 gen:Int
 used:Bool
 at_:Int
 deriving DecidableEq,Inhabited
def Sl.cells (x:Sl):List Value:=[.int .i64 x.gen,.bool x.used,.int .i64 x.at_]
theorem Sl.len(x:Sl):x.cells.length=3:=rfl
def eh (w:Nat):Sl:=⟨((w/4294967296%2147483648:Nat):Int),w/9223372036854775808==1,((w%4294967296:Nat):Int)⟩
def my (s:Sl):Bool:=if s.used=true then decide (0<s.gen)&&(decide (128<=s.at_)&&decide (s.at_<2048)) else s.at_==0
def slAt (G:List Nat) (i:Nat):Sl:=eh (wd G (112+i))
def oI (G:List Nat) (k:Nat):Prop:=∀i,i<k->my (slAt G i)=true
theorem pg(G:List Nat):oI G 0:=λi h=>absurd h (by omega)
theorem pL(h:oI G k)(b:my (slAt G k)=true):oI G (k+1):=λi hi=>by
 rcases kq8 i k with a|a
 .exact h i a
 .have:i=k:=(by omega);subst this;exact b
def slsOk (G:List Nat):Bool:=(List.range 16).all λi=>my (slAt G i)
theorem cO(G:List Nat):slsOk G=true↔oI G 16:=by unfold slsOk oI;rw[kzt];exact⟨λh i a=>h i (kzn.2 a),λh i a=>h i (kzn.1 a)⟩
theorem ry(a:k<16)(h:my (slAt G k)=false):slsOk G=false:=by
 cases b:slsOk G with
 | false=>rfl
 | true=>rw[(cO G).1 b k a] at h;cases h
def slL (G:List Nat):List Sl:=(List.range 16).map (slAt G)
theorem fi(G:List Nat):(slL G).length=16:=by simp[slL]
theorem lH(G:List Nat)(h:i<(slL G).length):(slL G)[i]=slAt G i:=by simp[slL]
def eg (G:List Nat):Int:=if am (G.length:Int)=true then (if slsOk G=true then 0 else 50) else 8
def fE (G:List Nat):List Sl:=if eg G=0 then slL G else []
theorem xo(h:am (G.length:Int)=false):eg G=8:=by simp[eg,h]
theorem lP(h:am (G.length:Int)=true)(a:slsOk G=false):eg G=50:=by simp[eg,h,a]
theorem jX(h:am (G.length:Int)=true)(a:slsOk G=true):eg G=0/\fE G=slL G:=by simp[fE,eg,h,a]
theorem io(w:Nat):0<=(eh w).gen/\(eh w).gen<=2147483647/\0<=(eh w).at_/\(eh w).at_<=4294967295:=by unfold eh;dsimp only;have h1:=kz3 (w/4294967296) (show 0<2147483648 by omega);have h2:=kz3 w (show 0<4294967296 by omega);omega
theorem Cr{s:Sl}(h:my s=true)(a:s.used=true):0<s.gen/\128<=s.at_/\s.at_<2048:=by
 unfold my at h;rw[if_pos a] at h
 simpa using h
def p9 (n:Nat) (l:List Bk):List Int:=l.foldl (λt b=>if b.kind=1 then t.set b.at_.toNat (b.typ+1) else t) (List.replicate n 0)
theorem zJ{l:List Bk}(a:k<l.length):p9 n (l.take (k+1))=if l[k].kind=1 then (p9 n (l.take k)).set l[k].at_.toNat (l[k].typ+1) else p9 n (l.take k):=by unfold p9;rw[kqi a,kva];rfl
theorem rv(t:List Int)(l:List Bk):(l.foldl (λt b=>if b.kind=1 then t.set b.at_.toNat (b.typ+1) else t) t).length=t.length:=by
 induction l generalizing t with
 | nil=>rfl
 | cons b l a=>simp only[kjz];rw[a];split<;>simp
theorem qW(n:Nat)(l:List Bk):(p9 n l).length=n:=by unfold p9;rw[rv,kja]
theorem Du(l:List Bk)(t:List Int)(P:Nat->Int->Prop)(c:∀a,(t[a]?.getD 0)=0\/P a (t[a]?.getD 0))(d:∀b∈l,b.kind=1->P b.at_.toNat (b.typ+1))(a:Nat):
 ((l.foldl (λt b=>if b.kind=1 then t.set b.at_.toNat (b.typ+1) else t) t)[a]?.getD 0)=0\/P a ((l.foldl (λt b=>if b.kind=1 then t.set b.at_.toNat (b.typ+1) else t) t)[a]?.getD 0):=by
 induction l generalizing t with
 | nil=>exact c a
 | cons b l g =>
  simp only[kjz];refine g _ (λa=>?_) (λx f=>d x (by simp[f]));split
  .rename_i hk;rw[kxl];split
   .rename_i e;subst e;split
    .right;exact d b (by simp) hk
    left;rfl
   exact c a
  exact c a
theorem Ht(l:List Bk)(t:List Int)(a:Nat)(j:a<t.length)(h:(t[a]?.getD 0)≠0\/∃b∈l,b.kind=1/\b.at_.toNat=a)(d:∀b∈l,b.kind=1->0<=b.typ):
 ((l.foldl (λt b=>if b.kind=1 then t.set b.at_.toNat (b.typ+1) else t) t)[a]?.getD 0)≠0:=by
 induction l generalizing t with
 | nil =>
  rcases h with h|⟨b,c,-⟩
  .exact h
  cases c
 | cons b l e =>
  simp only[kjz];refine e _ (by split<;>simp[j]) ?_ (λx c=>d x (by simp[c]));by_cases i:b.kind=1
  .rw[if_pos i,kxl];by_cases e:b.at_.toNat=a
   .left;rw[if_pos e,if_pos (by omega)];have:=d b (by simp) i;simp only[kq9,ne_eq];omega
   rw[if_neg e];rcases h with h|⟨x,c,f,g⟩
   .exact .inl h
   rcases kq0.1 c with rfl|c
   .exact absurd g e
   exact .inr ⟨x,c,f,g⟩
  rw[if_neg i];rcases h with h|⟨x,c,f,g⟩
  .exact .inl h
  rcases kq0.1 c with rfl|c
  .exact absurd f i
  exact .inr ⟨x,c,f,g⟩
def tb (G:List Nat) (a:Nat):Int:=(p9 G.length (aa G))[a]?.getD 0
theorem tT(h:tb G a≠0):a<G.length:=by
 rcases kq8 a G.length with b|b
 .exact b
 unfold tb at h;rw[kzj (by rw[qW];exact b)] at h;exact absurd rfl h
def fG (G:List Nat) (a:Nat):Prop:=128<=a/\a%2=0/\a<G.length/\stands G a=true/\(aq (wd G a)).kind=1/\dQ G (bkAt G a)=true/\∃k,∃h:k<(aa G).length,(aa G)[k]=bkAt G a/\blocks G a=some ((aa G).drop k)
theorem ma(h:ao G=0)(c:k<(aa G).length)(d:(aa G)[k].kind=1):∃a,(aa G)[k]=bkAt G a/\fG G a:=by obtain⟨hs,l,n,e,b⟩:=ax h;subst b;obtain⟨a,b,f,g,i,j,m⟩:=bN _ _ n (by omega) k c;refine⟨a,b,g,f,i,j,by rw[b] at d;exact d,?_,k,c,b,m⟩;rw[kzt] at e;rw[<-b];exact e _ (kqp c)
theorem iy(h:ao G=0)(g:tb G a≠0):fG G a/\tb G a=(aq (wd G a)).typ+1:=by
 have c:=Du (aa G) (List.replicate G.length 0) (λa v=>fG G a/\v=(aq (wd G a)).typ+1) (λa=>.inl (by
  rw[kjt];split<;>rfl)) (λb d f=>by
  obtain⟨k,b,rfl⟩:=kqy d;obtain⟨a,d,e⟩:=ma h b f;rw[d];have:(bkAt G a).at_.toNat=a:=by rw[af,kqf]
  rw[this];exact⟨e,rfl⟩) a
 exact c.resolve_left g
theorem obj_tb(h:ao G=0)(l:fG G a):tb G a=(aq (wd G a)).typ+1/\tb G a≠0:=by
 obtain⟨h1,h2,f,h4,g,h6,k,i,d,h8⟩:=l;have c:tb G a≠0:=by unfold tb p9;refine Ht _ _ _ (by rw[kja];exact f) (.inr ⟨_,kqp i,by rw[d];exact g,by rw[d,af,kqf]⟩) (λb e b=>?_);obtain⟨m,j,rfl⟩:=kqy e;obtain⟨a',e,e2⟩:=ma h j b;rw[e];show 0<=((_:Nat):Int);omega
 exact⟨(iy h c).2,c⟩
def flds (G:List Nat) (a:Nat):List Nat:=bB (wd G (96+2*(aq (wd G a)).typ.toNat)) (wd G (96+2*(aq (wd G a)).typ.toNat+1))
theorem ud(G:List Nat)(a:Nat):(flds G a).length<=8:=ke _ _
theorem nk(h:fG G a)(hi:i<(flds G a).length):a+2+i<G.length:=by
 obtain⟨h1,h2,h3,j,d,e,-⟩:=h;have hs:=aC j;have g:dQ G (bkAt G a)=dm G (bkAt G a):=by
  unfold dQ;have:((bkAt G a).kind != 1)=false:=by rw[kqt];exact d
  rw[this,Bool.false_or]
 have c:=iC (G:=G) (b:=bkAt G a) d;rw[g] at e;rw[g,e] at c;have c:=c.symm;simp only[kqs,kqw] at c;have f:=c.2;rw[aU] at f;have h8:(flds G a).length=(bB (wd G (tyA (bkAt G a))) (wd G (tyA (bkAt G a)+1))).length:=rfl;unfold bp at f;omega
inductive Rch (G:List Nat):Nat->Prop
 | slot (i:Nat) (hi:i<16) (hu:(slAt G i).used=true):Rch G (slAt G i).at_.toNat
 | ref (a i:Nat) (ha:Rch G a) (ht:tb G a≠0) (hi:(flds G a)[i]? = some 3) (hv:wd G (a+2+i)≠0):Rch G (min (wd G (a+2+i)) 2048)
def qT (G:List Nat):Prop:=∀a,Rch G a->tb G a≠0
def mK (G:List Nat) (a:Nat) (j:Nat):List Nat:=(List.range j).filterMap λi=>if (flds G a)[i]? = some 3/\wd G (a+2+i)≠0 then some (min (wd G (a+2+i)) 2048) else none
theorem Cj(G:List Nat)(a j:Nat):mK G a (j+1)=mK G a j++(if (flds G a)[j]? = some 3/\wd G (a+2+j)≠0 then [min (wd G (a+2+j)) 2048] else []):=by unfold mK;rw[kkg,kvg];congr 1;simp only[kvp,kvw];split<;>simp_all
theorem EW(G:List Nat)(a j:Nat):(mK G a j).length<=j:=by unfold mK;have:=kk0 (λi=>if (flds G a)[i]? = some 3/\wd G (a+2+i)≠0 then some (min (wd G (a+2+i)) 2048) else none) (List.range j);rwa [kko] at this
theorem Ft(h:x∈mK G a j):∃i,(flds G a)[i]? = some 3/\wd G (a+2+i)≠0/\x=min (wd G (a+2+i)) 2048:=by
 unfold mK at h;rw[kjg] at h;obtain⟨i,-,b⟩:=h;split at b
 .rename_i h3;injection b with b;exact⟨i,h3.1,h3.2,b.symm⟩
 cases b
theorem Fh(b:(flds G a)[i]? = some 3)(c:wd G (a+2+i)≠0):min (wd G (a+2+i)) 2048∈mK G a (flds G a).length:=by unfold mK;rw[kjg];refine⟨i,kzn.2 (kzd.1 b).1,?_⟩;rw[if_pos ⟨b,c⟩]
structure Wk (G:List Nat) (seen:List Bool) (todo:List Nat):Prop where
 hlen:seen.length=G.length
 htodo:∀a∈todo,Rch G a
 hseen:∀a,seen[a]? = some true->Rch G a/\tb G a≠0
 hslot:∀i,i<16->(slAt G i).used=true->(slAt G i).at_.toNat∈todo\/seen[(slAt G i).at_.toNat]? = some true
 href:∀a i,seen[a]? = some true->(flds G a)[i]? = some 3->wd G (a+2+i)≠0->min (wd G (a+2+i)) 2048∈todo\/seen[min (wd G (a+2+i)) 2048]? = some true
theorem Wk.bad(h:Wk G seen (todo++[a]))(b:tb G a=0):¬ qT G:=λc=>c a (h.htodo a (by simp)) b
theorem Wk.old(h:Wk G seen (todo++[a]))(d:seen[a]? = some true):Wk G seen todo:=by
 have c:∀x,x∈todo++[a]\/seen[x]? = some true->x∈todo\/seen[x]? = some true:=by
  intro x b;rcases b with b|b
  .rcases kz1.1 b with b|b
   .exact .inl b
   rw[kq2] at b;subst b;exact .inr d
  exact .inr b
 exact⟨h.hlen,λx b=>h.htodo x (by simp[b]),h.hseen,λi e f=>c _ (h.hslot i e f),λx i b e f=>c _ (h.href x i b e f)⟩
theorem Wk.new_(h:Wk G seen (todo++[a]))(f:tb G a≠0):Wk G (seen.set a true) (todo++mK G a (flds G a).length):=by
 have k:=h.hlen;have g:=tT f;have c:∀x,(seen.set a true)[x]? = some true↔x=a\/seen[x]? = some true:=by
  intro x;rw[kxl];by_cases e:a=x
  .subst e;simp[k,g]
  rw[if_neg e];constructor
  .exact .inr
  rintro (b|b)
  .exact absurd b.symm e
  exact b
 have e:∀x,x∈todo++[a]\/seen[x]? = some true->x∈todo++mK G a (flds G a).length\/(seen.set a true)[x]? = some true:=by
  intro x b;rw[c];rcases b with b|b
  .rcases kz1.1 b with b|b
   .exact .inl (by simp[b])
   rw[kq2] at b;exact .inr (.inl b)
  exact .inr (.inr b)
 have d:Rch G a:=h.htodo a (by simp);refine⟨by rw[kq5];exact k,λx b=>?_,λx b=>?_,λi j l=>e _ (h.hslot i j l),λx i b j l=>?_⟩
 .rcases kz1.1 b with b|b
  .exact h.htodo x (by simp[b])
  obtain⟨i,m,n,rfl⟩:=Ft b;exact Rch.ref a i d f m n
 .rcases (c x).1 b with rfl|b
  .exact ⟨d,f⟩
  exact h.hseen x b
 rcases (c x).1 b with rfl|b
 .exact .inl (by rw[kz1];exact .inr (Fh j l))
 exact e _ (h.href x i b j l)
theorem Wk.end_(h:Wk G seen []):qT G/\∀a,seen[a]? = some true↔Rch G a:=by
 have b:∀a,Rch G a->seen[a]? = some true:=by
  intro a c
  induction c with
  | slot i d e=>exact (h.hslot i d e).resolve_left (by simp)
  | ref a i c ht d e f=>exact (h.href a i f d e).resolve_left (by simp)
 exact⟨λa c=>(h.hseen a (b a c)).2,λa=>⟨λd=>(h.hseen a d).1,b a⟩⟩
def yQ (G:List Nat) (k:Nat):List Nat:=(List.range k).filterMap λi=>if (slAt G i).used=true then some (slAt G i).at_.toNat else none
theorem zL(G:List Nat)(k:Nat):yQ G (k+1)=yQ G k++(if (slAt G k).used=true then [(slAt G k).at_.toNat] else []):=by unfold yQ;rw[kkg,kvg];congr 1;simp only[kvp,kvw];split<;>simp_all
theorem uJ(G:List Nat)(k:Nat):(yQ G k).length<=k:=by unfold yQ;have:=kk0 (λi=>if (slAt G i).used=true then some (slAt G i).at_.toNat else none) (List.range k);rwa [kko] at this
theorem Wk.start(G:List Nat):Wk G (List.replicate G.length false) (yQ G 16):=by
 have d:∀a:Nat,(List.replicate G.length false)[a]? ≠ some true:=by intro a;rw[kjt];split<;>simp
 refine⟨kja,λa b=>?_,λa b=>absurd b (d a),λi e f=>.inl ?_,λa i b=>absurd b (d a)⟩
 .unfold yQ at b;rw[kjg] at b;obtain⟨i,e,c⟩:=b;split at c
  .rename_i h3;injection c with c;subst c;exact Rch.slot i (kzn.1 e) h3
  cases c
 unfold yQ;rw[kjg];exact⟨i,kzn.2 e,by rw[if_pos f]⟩
open Classical in
noncomputable def aK (G:List Nat):Int:=if ao G=0 then (if slsOk G=true then (if qT G then 0 else 50) else 50) else ao G
open Classical in
noncomputable def seenL (G:List Nat):List Bool:=(List.range G.length).map λa=>decide (Rch G a)
open Classical in
noncomputable def fB (G:List Nat):List Int:=if aK G=0 then ((List.range G.length).filter λa=>decide (Rch G a)).map (λa:Nat=>(a:Int)) else []
theorem Wk.seenL(h:Wk G seen []):seen=seenL G:=by
 have e:=h.end_.2;apply kjm;intro a;unfold Proofs.YtpcajamacpbjcaaGreat.seenL;by_cases b:a<G.length
 .have d:a<seen.length:=by rw[h.hlen];exact b
  rw[kxk,kvq b,kqg d];simp only[kzs,Option.some.injEq];have:=e a;rw[kqg d,Option.some.injEq] at this;cases c:seen[a] with
  | true=>rw[c] at this;simp[this.1 rfl]
  | false =>
   rw[c] at this;have f:¬ Rch G a:=λg=>by have:=this.2 g;cases this
   simp[f]
 rw[kzj (by rw[h.hlen];omega),kzj (by simp;omega)]
def om (l:List Bool):Nat:=(l.filter (! ·)).length
theorem yv{l:List Bool}(h:l[a]? = some false):om (l.set a true)+1=om l:=by
 induction l generalizing a with
 | nil=>simp at h
 | cons b l c =>
  cases a with
  | zero =>simp only[kkk,Option.some.injEq] at h;subst h;simp[om]
  | succ a =>simp only[kkj] at h;have:=c h;unfold om at this |-;cases b<;>simp_all<;>omega
open Go.RowKit
def Sl.val (x:Sl):Value:=.agg #[.int .i64 x.gen,.bool x.used,.int .i64 x.at_]
theorem vO(g:Int)(u:Bool)(a:Int)(w:World)(l:0<=g)(m:g<=2147483647):
 Calls prog 171 #[.agg #[.int .i64 g,.bool u,.int .i64 a]] w λe b=>e=.returned (.bool (my ⟨g,u,a⟩))/\Below w.heap.size w b:=by
 have b:=(kqe w.heap.size w).alloc (kqa _) (.cells #[.int .i64 g,.bool u,.int .i64 a] 52);have d:=y5 b;have d1:decide (g<0)=false:=(by rw[kqb];omega);have d2:decide (2147483647<g)=false:=(by rw[kqb];omega);clear b;cases u
 .have H:Hid (my ⟨g,false,a⟩=(a==0)):=y5 rfl;go_enter func171,ntmps171;go_wp2;go_ret;exact⟨by rw[H.out];rfl,d.out⟩
 have H:Hid (∀b:Bool,b=(decide (0<g)&&(decide (128<=a)&&decide (a<2048)))->my ⟨g,true,a⟩=b):=y5 λb h=>by rw[h];rfl
 have c:(∃b,decide (0<g)=b)/\(∃b,decide (128<=a)=b)/\∃b,decide (a<2048)=b:=⟨⟨_,rfl⟩,⟨_,rfl⟩,⟨_,rfl⟩⟩;obtain⟨⟨e,i⟩,⟨f,j⟩,⟨h,k⟩⟩:=c;have b:=y5 (H.out _ rfl);rw[i,j,k] at b;clear H l m;cases e<;>cases f<;>cases h
 all_goals
  go_enter func171,ntmps171;go_wp2;go_ret;exact⟨by rw[b.out];rfl,d.out⟩
def slB (x:Nat):Sl:=if my (eh x)=true then eh x else ⟨0,false,0⟩
def wU (x:Nat):Int:=if my (eh x)=true then 0 else 50
theorem xp(h:my (eh x)=true):slB x=eh x/\wU x=0:=by simp[slB,wU,h]
theorem yI(h:my (eh x)=false):slB x=⟨0,false,0⟩/\wU x=50:=by simp[slB,wU,h]
theorem kh(h:fn.results=#[.cell p 52,.tmp q])(a:Array Value){v0 v1 v2:Value}(i:Bx W g t #[v0,v1,v2])(b:a.getD p undef=.pointer (some ⟨g,0,none⟩))(c:a.getD q undef=u):
 (results fn a).run prog W=.ok (.tuple #[.agg #[v0,v1,v2],u]) W:=by obtain⟨d,e,f,-⟩:=i.c3;rw[kxy] at b c;simp[results,h,b,c,go_sem,d,e,f]
theorem Jf(x:Nat)(b:x<18446744073709551616):bits BinOp.and .u64 ((x:Int)/4294967296) 2147483647=((x/4294967296%2147483648:Nat):Int)/\bits BinOp.and .u64 (x:Int) 4294967295=((x%4294967296:Nat):Int) /\
 (((x:Int)/9223372036854775808)==1)=(x/9223372036854775808==1):=by
 refine⟨?_,tI (k:=32) (m:=4294967295) b rfl (by omega),?_⟩
 .have a:x/4294967296<18446744073709551616:=(by omega);have h:=tI (k:=31) (m:=2147483647) a rfl (by omega);exact h
 rw[kzk,kqw,kqw];omega
theorem Ex(x:Nat)(w:World)(o:x<18446744073709551616):
 Calls prog 111 #[.int .u64 (x:Int)] w λe a=>e=.returned (.tuple #[(slB x).val,.int .i64 (wU x)])/\Below w.heap.size w a:=by
 obtain⟨k,l,m⟩:=Jf x o;obtain⟨c,i,j,n⟩:=io x;obtain⟨f,d,b⟩:=yq1 (λh=>xp (x:=x) h) (λh=>yI (x:=x) h) (λW=>vO (eh x).gen (eh x).used (eh x).at_ W c i);have hx0:(0:Int)<=(x:Int):=(by omega);have a:((x/4294967296%2147483648:Nat):Int)=(eh x).gen:=rfl;have g:((x%4294967296:Nat):Int)=(eh x).at_:=rfl;have h:(x/9223372036854775808==1)=(eh x).used:=rfl;rw[a] at k;rw[g] at l;rw[h] at m;clear a g h o;obtain⟨s,z⟩:=xq (eh x);rw[z] at k l m c i j n b f d;obtain⟨g,u,a⟩:=s;dsimp only at k l m c i j n b;have w1:IntKind.i64.wrap g=g:=kqo _ (by omega);have w2:IntKind.i64.wrap a=a:=kqo _ (by omega);have t:=Bx.new w 52 #[.int .i64 0,.bool false,.int .i64 0];have o:=y5 (t.alloc (.cells #[.int .i64 g,.bool u,.int .i64 a] 52));have h:=Bx.new (w.alloc (.cells #[.int .i64 0,.bool false,.int .i64 0] 52)) 52 #[.int .i64 g,.bool u,.int .i64 a];rw[kqm] at h;obtain⟨p,r⟩:=yq0 h (((kqe w.heap.size w).alloc (kqa _) (.cells #[.int .i64 0,.bool false,.int .i64 0] 52)).alloc (cr (kqa _)) (.cells #[.int .i64 g,.bool u,.int .i64 a] 52));obtain⟨q,y⟩:∃q,my ⟨g,u,a⟩=q:=⟨_,rfl⟩;rw[y] at b f d;clear t h z y c i j n;go_enter func111,ntmps111;go_wp2_with fail;refine (b.out _).mono ?_;rintro e w3 ⟨rfl,c⟩;have h:=o.out.up c o.out.lt;have j:=p.out.up c p.out.lt;have i:=yq7 r c;obtain⟨p0,p1,p2,f0,f1,f2,hg0⟩:=h.c3;obtain⟨n0,n1,n2,-⟩:=j.c3;have e:=y5 h;clear h j c;cases q
 .have c:=y5 (d.out rfl);go_wp2_with fail;exact kqq (v:=.tuple #[.agg #[.int .i64 0,.bool false,.int .i64 0],.int .i64 50]) (kh results111 _ (((e.out.set_ 0 _).set_ 1 _).set_ 2 _) rfl rfl) rfl ⟨by rw[c.out.1,c.out.2];rfl,((i.out.setCell (kqa _) _).setCell (kqa _) _).setCell (kqa _) _⟩
 have c:=y5 (f.out rfl);go_wp2_with fail;exact kqq (v:=.tuple #[.agg #[.int .i64 g,.bool u,.int .i64 a],.int .i64 0]) (kh results111 _ (((e.out.set_ 0 _).set_ 1 _).set_ 2 _) rfl rfl) rfl ⟨by rw[c.out.1,c.out.2];rfl,((i.out.setCell (kqa _) _).setCell (kqa _) _).setCell (kqa _) _⟩
def noSl:Sl:=⟨0,false,0⟩
def kN (G:List Nat) (k:Nat):List Sl:=(List.range 16).map λi=>if i<k then slAt G i else noSl
def iM (l:List Sl):Array Value:=(l.flatMap Sl.cells).toArray
theorem jE(G:List Nat)(k:Nat):(kN G k).length=16:=by simp[kN]
theorem ol(G:List Nat)(k j:Nat)(a:j<16):(kN G k)[j]? = some (if j<k then slAt G j else noSl):=by simp[kN,a]
theorem yy(G:List Nat)(k:Nat)(b:k<16):kN G (k+1)=(kN G k).set k (slAt G k):=by
 apply kjm;intro j;rw[kxl];by_cases a:j<16
 .rw[ol _ _ _ a,ol _ _ _ a];by_cases e:k=j
  .subst e;rw[if_pos (show k<k+1 by omega),if_pos rfl,if_pos (by rw[jE];exact b)]
  rw[if_neg e];by_cases h:j<k
  .rw[if_pos h,if_pos (by omega)]
  rw[if_neg h,if_neg (by omega)]
 rw[kzj (by rw[jE];omega),if_neg (by omega),kzj (by rw[jE];omega)]
theorem xS(G:List Nat):kN G 0=List.replicate 16 noSl:=by
 apply kjm;intro j;by_cases a:j<16
 .rw[ol _ _ _ a,if_neg (by omega),kjt,if_pos a]
 rw[kzj (by rw[jE];omega),kzj (by simp;omega)]
theorem CL(G:List Nat):kN G 16=slL G:=by unfold kN slL;apply kxi;intro i a;rw[if_pos (kzn.1 a)]
theorem sl_set(l:List Sl)(k:Nat)(x:Sl):(l.set k x).flatMap Sl.cells=(((l.flatMap Sl.cells).set (k*3) (.int .i64 x.gen)).set (k*3+1) (.bool x.used)).set (k*3+2) (.int .i64 x.at_):=by
 have d:=eN Sl.cells 3 Sl.len l k 0 (by omega) ⟨x.gen,(l[k]?.getD default).used,(l[k]?.getD default).at_⟩ (.int .i64 x.gen) (λy a=>by rw[a];rfl);have b:=eN Sl.cells 3 Sl.len (l.set k ⟨x.gen,(l[k]?.getD default).used,(l[k]?.getD default).at_⟩) k 1 (by omega) ⟨x.gen,x.used,(l[k]?.getD default).at_⟩ (.bool x.used) (λy a=>by
  rw[kxl] at a;simp only[if_true] at a;split at a
  .cases a;rfl
  cases a)
 have c:=eN Sl.cells 3 Sl.len (l.set k ⟨x.gen,x.used,(l[k]?.getD default).at_⟩) k 2 (by omega) x (.int .i64 x.at_) (λy a=>by
  rw[kxl] at a;simp only[if_true] at a;split at a
  .cases a;rfl
  cases a)
 rw[List.set_set] at b c;rw[c,b,d];rfl
theorem CO(l:List Sl)(k:Nat)(x:Sl):(((iM l).setIfInBounds (k*3) (.int .i64 x.gen)).setIfInBounds (k*3+1) (.bool x.used)).setIfInBounds (k*3+2) (.int .i64 x.at_)=iM (l.set k x):=by unfold iM;rw[sl_set];simp
theorem iK(l:List Sl):(iM l).size=l.length*3:=by unfold iM;rw[kkd,bU Sl.cells 3 Sl.len]
theorem Sl.one(x:Sl):∀u∈x.cells,u.oneCell'=true:=by intro u a;simp only[Sl.cells,kq0,kzm,or_false] at a;rcases a with rfl|rfl|rfl<;>rfl
theorem kM(l:List Sl):(iM l).all (·.oneCell')=true:=by unfold iM;rw[List.all_toArray,kzt];exact db Sl.one l
def ci:Array Value:=iM (List.replicate 16 noSl)
theorem gX:ci.size=48:=by unfold ci;rw[iK,kja]
theorem lO:ci.all (·.oneCell')=true:=kM _
theorem nW(w:World):(zeroValue 118).run prog w=.ok (.agg ci) w:=by kernel_rfl
theorem Hz(w:World):(Instr.build 118 #[]).run prog w=.ok (.agg ci) w:=by kernel_rfl
theorem kF:(prog.info? 118).map (·.size)=some 48:=by kernel_rfl
theorem lW(l:List Sl)(h:j<l.length*3):∃u,(iM l)[j]? = some u:=by have:=iK l;exact⟨_,kx7 (by omega)⟩
theorem kH(h:fn.results=#[.cell p 118,.tmp q])(a:Array Value){cs:Array Value}(d:Bx W g t cs)(k:cs.size=48)(i:a.getD p undef=.pointer (some ⟨g,0,none⟩))(j:a.getD q undef=u):
 (results fn a).run prog W=.ok (.tuple #[.agg cs,u]) W:=by
 have b:a[p]?.getD undef=.pointer (some ⟨g,0,none⟩):=by simpa using i
 have c:a[q]?.getD undef=u:=by simpa using j
 have e:(prog.info? 118).map (·.size)=some cs.size:=by rw[k];exact kF
 have f:=run_loadVar_row W g t 118 cs (0,0) _ d underlying118 rfl e;simp[results,h,b,c,asAddr,f]
def opV (G:List Nat):Value:=.agg (if eg G=0 then iM (slL G) else ci)
theorem Ju(h:eg G=0):opV G=.agg (iM (slL G)):=by simp[opV,h]
theorem FS(h:eg G≠0):opV G=.agg ci:=by simp[opV,h]
theorem Cn(A:Option Addr)(G:List Nat)(c n:Nat)(w:World)(a:G.length=n)(hm:n<=9223372036854775807)(f:RdW w w.heap.size A G)(b:∀x∈G,x<2^64):
 Calls prog 64 #[.slice A n c] w λe d=>e=.returned (.tuple #[opV G,.int .i64 (eg G)])/\Below w.heap.size w d:=by
 subst a;have X:=y5 f;have S:Hid (∀k,wd G k<18446744073709551616):=y5 (fH b);have hzv:=nW;have hbv:=Hz;have q:=gX;have O:=y5 lO;have a:=kF;have m:=Bx.new w 118 ci;have d:=(kqe w.heap.size w).alloc (kqa _) (.cells ci 118);clear f b;cases i:am (G.length:Int)
 .have r:=y5 (bQ i);have D:=xo i;obtain⟨t,f,l⟩:=yq1 (And.intro D (FS (by rw[D];omega))) m d;rw[<-q] at a;have o:=a;clear i D m d a;go_enter func64,ntmps64;go_wp2_with fail;refine (aJ A G.length c _ hm).mono ?_;rintro e s ⟨rfl,rfl⟩;rw[r.out];go_wp2_with (first
   | ((with_reducible refine aj 118 (.tmp 2) _ ?_);refine ai rfl _ _ _ rfl w.heap.size 118 ci ci (by rfl) (by rfl) f.out rfl o O.out ?_;intro w3 h b;have g:=y5 h;have p:=y5 b;clear h b))
  exact kqq (v:=.tuple #[.agg ci,.int .i64 8]) (kH results64 _ g.out q rfl rfl) rfl ⟨by rw[t.out.1,t.out.2],p.out.below l.out (kqa _)⟩
 have r:=y5 (aM i);obtain⟨hb1,hb2,-⟩:=dA G i;have Y:=y5 i;obtain⟨b,V,rfl,hb,-⟩:=RdW.at_ X.out (show 0<G.length by omega);have R:Hid (∀k (h:k<G.length) (W:World),Below w.heap.size w W->W.cell? ⟨b,V+k,none⟩=some (.int .u64 (wd G k:Int))):=y5 λk h W C=>by
  obtain⟨b',off',p,-,P⟩:=RdW.at_ (Rd.below X.out C) h;cases p;rw[<-bY] at P;exact P
 obtain⟨f,l⟩:=yq0 m d;rw[<-q] at a;have o:=a;clear i m d a;go_enter func64,ntmps64;go_wp2_with fail;refine (aJ _ G.length c _ hm).mono ?_;rintro e s ⟨rfl,rfl⟩;rw[r.out];go_wp2_with fail;go_loopw [15] (λi wr=>∃k:Nat,k<=16/\i=.int .i64 k/\Hid (oI G k)/\Bx wr w.heap.size 118 ci/\Bx wr (w.heap.size+1) 118 (iM (kN G k))/\Below w.heap.size w wr) (λi _=>16-(intOf i).toNat)
 case atStart =>
  have a:=Bx.new (w.alloc (.cells ci 118)) 118 ci;rw[kqm] at a;exact⟨0,kqv _,rfl,pg G,f.out.alloc _,by rw[xS];exact a,l.out.alloc (by simp) _⟩
 obtain⟨k,hk,rfl,J,Q,I,C⟩:=hrel;have hz:=C.size;obtain⟨L,Z⟩:=yq0 Q I;by_cases M:k<16
 .have P:=R.out (112+k) (by omega) _ C;obtain⟨a,B,z⟩:=yq1 (λW=>Ex (wd G (112+k)) W (S.out _)) (λh=>pL J.out h) (λh=>lP Y.out (ry M h));have h:eh (wd G (112+k))=slAt G k:=rfl;have T:=y5 (yy G k M);have hsz:=jE G k;obtain⟨u0,E⟩:=lW (kN G k) (j:=k*3) (by omega);obtain⟨u1,F⟩:=lW (kN G k) (j:=k*3+1) (by omega);obtain⟨u2,H⟩:=lW (kN G k) (j:=k*3+2) (by omega);have i1:(0:Int)<=112+(k:Int):=(by omega);have i2:(112:Int)+(k:Int)<(G.length:Int):=(by omega);have n1:((112:Int)+(k:Int)).toNat=112+k:=(by omega);have hk1:(k:Int)<16:=(by omega);have hk0:(0:Int)<=(k:Int):=(by omega);obtain⟨x,U⟩:=xq (wd G (112+k));rw[U] at P a h;cases d:my (slAt G k)
  .have D:=z.out d;have t:=y5 (And.intro D (FS (by rw[D];omega)));rw[<-h] at d;rw[(yI d).1,(yI d).2] at a;unfold Sl.val at a;dsimp only at a;clear U d D h z B Q I E F H;go_wp2_with fail;refine (a.out _).mono ?_;rintro e w3 ⟨rfl,f⟩;obtain⟨r,g⟩:=yq0 (L.out.up f L.out.lt) (C.trans (f.mono hz));clear f;go_wp2_with (first
    | ((with_reducible refine aj 118 (.tmp 2) _ ?_);refine ai rfl _ _ _ rfl w.heap.size 118 ci ci (by rfl) (by rfl) (r.out.alloc _) rfl o O.out ?_;intro W m l;have y:=y5 m;have u:=y5 l;clear m l))
   exact kqq (v:=.tuple #[.agg ci,.int .i64 50]) (kH results64 _ y.out q rfl rfl) rfl ⟨by rw[t.out.1,t.out.2],u.out.below (g.out.alloc g.out.size _) (kqa _)⟩
  have K:=y5 (B.out d);rw[<-h] at d;rw[(xp d).1,(xp d).2,h] at a;have p:=CO (kN G k) k (slAt G k);rw[<-T.out] at p;have i:=y5 p;obtain⟨s,N⟩:=xq (slAt G k);rw[N] at a i;obtain⟨sg,su,sa⟩:=s;unfold Sl.val at a;dsimp only at a i;clear U d h N p z B Q I;go_wp2_with fail;refine (a.out _).mono ?_;rintro e w3 ⟨rfl,f⟩;have r:=Z.out.up f Z.out.lt;obtain⟨d,h⟩:=yq0 r (L.out.up f L.out.lt);have hg3:=r.lt;have d0:=(r.cell (k*3)).trans E;have d1:=(r.cell (k*3+1)).trans F;have d2:=(r.cell (k*3+2)).trans H;have f0:=r.frozen (k*3);have f1:=r.frozen (k*3+1);have f2:=r.frozen (k*3+2);have g:=y5 (C.trans (f.mono hz));clear f r E F H;go_wp2;go_roundw
  case rel =>
   refine⟨k+1,by omega,by go_num,K.out,(((h.out.far (by simp) _).far (by simp) _).far (by simp) _).alloc _,?_,(((g.out.setCell (by simp) _).setCell (by simp) _).setCell (by simp) _).alloc (by simpa using g.out.size) _⟩;rw[<-i.out];exact (((d.out.set_ (k*3) _).set_ (k*3+1) _).set_ (k*3+2) _).alloc _
  case measure=>simp[intOf];omega
 obtain rfl:k=16:=(by omega);have f:=jX Y.out ((cO G).2 J.out);have t:=y5 (And.intro f.1 (Ju f.1));rw[CL] at I;have a:(iM (slL G)).size=48:=by rw[iK,fi]
 obtain⟨d,e⟩:=xq (iM (slL G));have i:d.all (·.oneCell')=true:=by rw[<-e];exact kM _
 have o:=y5 i;rw[e] at I t a;have p:=y5 I;have g:(prog.info? 118).map (·.size)=some d.size:=by rw[a];exact kF
 have h:d.size=ci.size:=by rw[a,q]
 clear Q I f e i;go_wp2_with (first
  | ((with_reducible refine av 118 (.tmp 5) ?_);refine kz7 rfl _ _ rfl (w.heap.size+1) (by rfl) 118 d (0,0) _ p.out underlying118 (by rfl) g ?_)
  | ((with_reducible refine aj 118 (.tmp 2) _ ?_);refine ai rfl _ _ _ rfl w.heap.size 118 ci d (by rfl) (by rfl) L.out h g o.out ?_;intro W m l;have y:=y5 m;have u:=y5 l;clear m l))
 exact kqq (v:=.tuple #[.agg d,.int .i64 0]) (kH results64 _ y.out a rfl rfl) rfl ⟨by rw[t.out.1,t.out.2],u.out.below C (kqa _)⟩
theorem Rd.of_box{cs:Array Value}(h:Bx w g t cs)(a:g<B):Rd w B (some ⟨g,0,none⟩) cs.toList:=λ_ =>
 ⟨g,0,rfl,a,λj hj=>by
  rw[kxg,h.cell j]
  simp⟩
def RdS (w:World) (B:Nat) (A:Option Addr) (l:List Sl):Prop:=Rd w B A (l.flatMap Sl.cells)
theorem RdS.at_{l:List Sl}(h:RdS w B A l)(f:k<l.length):
 ∃b a,A=some ⟨b,a,none⟩/\b<B/\w.cell? ⟨b,a+k*3,none⟩=some (.int .i64 l[k].gen)/\w.cell? ⟨b,a+k*3+1,none⟩=some (.bool l[k].used)/\w.cell? ⟨b,a+k*3+2,none⟩=some (.int .i64 l[k].at_):=by obtain⟨b,a,e,d,c⟩:=Rd.at_flat Sl.len h (by omega) f;exact⟨b,a,e,d,c 0 (by omega),c 1 (by omega),c 2 (by omega)⟩
def Is (G:List Nat) (e:Ending) (w':World):Prop:=∃A c,e=.returned (.tuple #[.slice A (fE G).length c,.int .i64 (eg G)])/\RdS w' w'.heap.size A (fE G)/\(fE G).length<=c
theorem Gr(A:Option Addr)(G:List Nat)(c n:Nat)(w:World)(b:G.length=n)(a:n<=9223372036854775807)(s:RdW w w.heap.size A G)(d:∀x∈G,x<2^64):
 Calls prog 25 #[.slice A n c] w λe f=>Is G e f/\Below w.heap.size w f:=by
 have m:=y5 (Cn A G c n w b a s d);clear s d b a;have q:=gX;by_cases h:eg G=0
 .have b:fE G=slL G:=by simp[fE,h]
  have i:=y5 (And.intro h b);have g:=fi G;rw[h,Ju h] at m;have d:(iM (slL G)).size=48:=by rw[iK,fi]
  obtain⟨l,f⟩:=xq (slL G);rw[f] at d m g i;have r:Hid (iM l=(l.flatMap Sl.cells).toArray):=y5 rfl;obtain⟨D,E⟩:=yq0 (kM l) g;obtain⟨y,a⟩:=xq (iM l);rw[a] at m d r D;have o:(prog.info? 118).map (·.size)=some y.size:=by rw[d];exact kF
  clear h b f a g q;go_enter func25,ntmps25;go_wp2_with fail;refine m.out.mono ?_;rintro e t ⟨rfl,a⟩;have C:=nW;have B:y.size=ci.size:=by rw[d,gX]
  have v:=Bx.new t 118 ci;obtain⟨z,k⟩:=yq0 v (a.alloc a.size (.cells ci 118));have p:=a.size;clear v a;go_wp2_with (first
   | ((with_reducible refine aj 118 (.tmp 4) _ ?_);refine ai rfl _ _ _ rfl t.heap.size 118 ci y (by rfl) (by rfl) z.out B o D.out ?_;intro F g f;have u:=y5 g;have j:=y5 (f.below k.out p);clear g f))
  go_ret2;refine⟨⟨some ⟨t.heap.size,0,none⟩,16,by rw[i.out.1,i.out.2,E.out];rfl,?_,by rw[i.out.2,E.out];omega⟩,j.out⟩;rw[i.out.2];have:=u.out;rw[r.out] at this;exact Rd.of_box this this.lt
 have b:fE G=[]:=by simp[fE,h]
 have i:=y5 b;rw[FS h] at m;obtain⟨r,s⟩:=xq (eg G);have l:=y5 s;rw[s] at m h;have hrn:(r != 0)=true:=by rw[kqx];exact h
 have p:=y5 lO;have o:(prog.info? 118).map (·.size)=some ci.size:=by rw[q];exact kF
 clear h b s q;go_enter func25,ntmps25;go_wp2_with fail;refine m.out.mono ?_;rintro e t ⟨rfl,a⟩;have C:=nW;have v:=Bx.new t 118 ci;obtain⟨z,k⟩:=yq0 v (a.alloc a.size (.cells ci 118));have d:=a.size;clear v a;go_wp2_with (first
  | ((with_reducible refine aj 118 (.tmp 4) _ ?_);refine ai rfl _ _ _ rfl t.heap.size 118 ci ci (by rfl) (by rfl) z.out rfl o p.out ?_;intro F g f;have u:=y5 g;have j:=y5 (f.below k.out d);clear g f))
 go_ret2;exact⟨⟨none,0,by rw[l.out,i.out];rfl,by rw[i.out];exact Rd.nil_,by rw[i.out];exact kqa _⟩,j.out⟩
def mq (H:Nat) (a b:Nat) (e:Ending) (w':World):Prop:=∃A c,e=.returned (.tuple #[.slice A (bB a b).length c,.int .i64 (ff a b)])/\w'.ownsRow H 5 1 (.slice A (bB a b).length c) (bB a b).length ((bB a b).flatMap bq)
theorem kY(h:b8 a b=false):mq H a b (.returned (.tuple #[.slice none 0 0,.int .i64 50])) w':=by
 have c:bB a b=[]:=by simp[bB,h]
 have d:ff a b=50:=by simp[ff,h]
 exact⟨none,0,by rw[c,d];rfl,by rw[c];exact kq3 _ _ _ _⟩
theorem yD{v:Value}(d:b8 a b=true)(h:w'.ownsRow H 5 1 v (cG a).length ((cG a).flatMap bq)):mq H a b (.returned (.tuple #[v,.int .i64 0])) w':=by
 have e:bB a b=cG a:=by simp[bB,d]
 have f:ff a b=0:=by simp[ff,d]
 obtain⟨A,c,rfl⟩:=aw h;exact⟨A,c,by rw[e,f],by rw[e];exact h⟩
theorem vk(a b:Nat)(w:World)(d:a<18446744073709551616)(f:b<18446744073709551616):
 Calls prog 117 #[.int .u64 (a:Int),.int .u64 (b:Int)] w λe c=>mq w.heap.size a b e c/\Below w.heap.size w c:=by
 have y:=y5 (kD a b);have ha0:(0:Int)<=(a:Int):=(by omega);have M:=(um a d).1;obtain⟨j,t,C⟩:=yq1 (dp a) (λk h=>mI a k h) (λk=>vh a k d);have i:a%256<256:=kz3 _ (by omega);obtain⟨m,c⟩:=xq (a%256);rw[c] at M j t y i;by_cases l:8<m
 .have g:=y5 (show b8 a b=false by rw[y.out,show decide (m<=8)=false by rw[kqb];omega];rfl);clear c d f;go_enter func117,ntmps117;go_wp2;go_ret2;exact⟨kY g.out,kqe _ _⟩
 have z:m<=8:=(by omega);rw[show decide (m<=8)=true by rw[kqh];exact z] at y;have hx0:(0:Int)<=(m:Int):=(by omega);obtain⟨HA,g⟩:=yq0 d f;have d8:decide ((8:Int)<(m:Int))=false:=(by rw[kqb];omega);clear c d f l i;obtain⟨N,g,c,d,f⟩:=kzh j9;obtain⟨K,D,E,F⟩:=yq2 g c d f;clear g c d f;go_enter func117,ntmps117;go_wp2_with fail;go_loopw [7,16] (λv i wr=>∃k:Nat,k<=m/\i=.int .u64 k/\wr.ownsRow w.heap.size 5 1 v k (((cG a).take k).flatMap bq)/\Below w.heap.size w wr) (λ_ i _=>m-(intOf i).toNat)
 case atStart=>exact⟨0,kqv _,rfl,kq3 _ _ _ _,kqe _ _⟩
 obtain⟨k,hk,rfl,c,r⟩:=hrel;have A:=r.size;by_cases v:k<m
 .have g:=C.out k;have f:=t.out k v;obtain⟨x,i⟩:=xq (a/4 ^ (k+4)%4);have hx3:x<4:=by rw[<-i];exact kz3 _ (by omega)
  rw[i] at g f;have d:=y5 (show ((cG a).take (k+1)).flatMap bq=((cG a).take k).flatMap bq++[.int .u8 (x:Int)] by
   have l:k<(cG a).length:=by rw[j.out];exact v
   rw[kqi l,ce];rw[kqg l] at f;rw[Option.some.inj f];rfl)
  have hxi:(x:Int)<4:=(by omega);have hx00:(0:Int)<=(x:Int):=(by omega);have hki:(k:Int)<(m:Int):=(by omega);clear i f;go_wp2_with (at_builtin;refine kq7 _ rfl _ _ 113 rfl w.heap.size 5 N _ 1 1 underlying113 K.out D.out E.out F.out rfl (by decide) _ _ _ rfl (c.alloc _) ⟨_,0,none⟩ 1 1 [.int .u8 (x:Int)] rfl rfl (bc _ _ _) (by simp[Value.oneCell']) (by unfold maxLen;omega) (by omega) (cr r.size) ?_;intro v1 B i l _;have f:=ay r r.size c l);go_roundw;exact⟨k+1,by omega,by go_num,by rw[d.out];exact i,f⟩;simp[intOf];omega
 obtain rfl:k=m:=(by omega);rw[kza (by rw[j.out];exact kqa _)] at c;obtain⟨J,L,rfl⟩:=aw c;have s:=y5 (vR J (cG a) L k wr j.out (by omega) (Rd.of_own c));have g:(cG a).length<=8:=by rw[j.out];exact z
 cases l:fM (cG a)
 .obtain⟨n,u⟩:=yq0 (lI g l) (show b8 a b=false by rw[y.out,l];rfl);have x:=y5 (show kwV (cG a)=.agg #[.int .u64 0,.int .u64 0] by simp[kwV,n.out,F8]);rw[n.out,x.out] at s;clear l g c;go_wp2_with fail;refine s.out.mono ?_;rintro e B ⟨rfl,f⟩;have d:=r.trans (f.mono A);go_wp2;go_ret2;exact⟨kY u.out,d.alloc d.size _⟩
 have n:=y5 (jT g l);have x:=y5 (show kwV (cG a)=.agg #[.int .u64 (ko (cG a):Nat),.int .u64 (jt (ko (cG a)):Nat)] by simp[kwV,n.out,F8]);have o:=y5 (show b8 a b=(ko (cG a)==a&&jt (ko (cG a))==b) by
  rw[y.out,l];by_cases h:ko (cG a)=a
  .rw[h];simp
  rw[show (ko (cG a)==a)=false by rw[kqc];exact h];simp only[kxh,kx6])
 rw[n.out,x.out] at s;obtain⟨p,G⟩:=xq (ko (cG a));obtain⟨q,I⟩:=xq (jt p);rw[G,I] at s o;clear l g G I;by_cases g:p=a
 .by_cases n:q=b
  .have x:=y5 (show b8 a b=true by rw[o.out,g,n];simp);have l:=pa p q a b;rw[show ((p:Int)==(a:Int))=true by rw[kqw];omega,show ((q:Int)==(b:Int))=true by rw[kqw];omega,Bool.and_self] at l;clear g n;go_wp2_with fail;refine s.out.mono ?_;rintro e B ⟨rfl,f⟩;have d:=r.trans (f.mono A);have i:=ag c f (kqa _);go_wp2;go_ret2;refine⟨yD x.out (H:=w.heap.size) ?_,d.alloc d.size _⟩;rw[j.out];exact i.alloc _
  have u:=y5 (show b8 a b=false by rw[o.out,show (q==b)=false by rw[kqc];exact n,kx6]);have l:=pa p q a b;rw[show ((q:Int)==(b:Int))=false by rw[kqc];omega,kx6] at l;clear g n c;go_wp2_with fail;refine s.out.mono ?_;rintro e B ⟨rfl,f⟩;have d:=r.trans (f.mono A);go_wp2;go_ret2;exact⟨kY u.out,d.alloc d.size _⟩
 have u:=y5 (show b8 a b=false by rw[o.out,show (p==a)=false by rw[kqc];exact g,kxh]);have l:=pa p q a b;rw[show ((p:Int)==(a:Int))=false by rw[kqc];omega,kxh] at l;clear g c;go_wp2_with fail;refine s.out.mono ?_;rintro e B ⟨rfl,f⟩;have d:=r.trans (f.mono A);go_wp2;go_ret2;exact⟨kY u.out,d.alloc d.size _⟩
def Gw (H:Nat) (a b:Nat) (e:Ending) (w':World):Prop:=∃A c,e=.returned (.tuple #[.slice A (bB a b).length c,.bool (b8 a b)])/\w'.ownsRow H 5 1 (.slice A (bB a b).length c) (bB a b).length ((bB a b).flatMap bq)
theorem xX(A:Option Addr)(G:List Nat)(c n t:Nat)(w:World)(b:G.length=n)(hm:n<=1000000)(h2:256<=n)(s:t<8)(l:RdW w w.heap.size A G)(i:∀x∈G,x<2^64):
 Calls prog 110 #[.slice A n c,.int .i64 (t:Int)] w λe a=>Gw w.heap.size (wd G (96+2*t)) (wd G (96+2*t+1)) e a/\Below w.heap.size w a:=by
 subst b;have o:=fH i (96+2*t);have q:=fH i (96+2*t+1);obtain⟨g,h⟩:=yq0 (λW=>vk (wd G (96+2*t)) (wd G (96+2*t+1)) W o q) (mH (wd G (96+2*t)) (wd G (96+2*t+1)));obtain⟨b,a,rfl,m,j⟩:=RdW.at_ l (show 96+2*t<G.length by omega);obtain⟨b',off',r,-,k⟩:=RdW.at_ l (show 96+2*t+1<G.length by omega);cases r;rw[<-bY] at j k;obtain⟨x,d⟩:=xq (wd G (96+2*t));obtain⟨y,f⟩:=xq (wd G (96+2*t+1));rw[d] at j g h |-;rw[f] at k g h |-;have t0:(0:Int)<=(t:Int):=(by omega);have t8:(t:Int)<8:=(by omega);have w1:IntKind.i64.wrap (2*(t:Int))=2*(t:Int):=kqo _ (by omega);have w2:IntKind.i64.wrap (96+2*(t:Int))=96+2*(t:Int):=kqo _ (by omega);have w3:IntKind.i64.wrap (96+2*(t:Int)+1)=96+2*(t:Int)+1:=kqo _ (by omega);have i1:(0:Int)<=96+2*(t:Int):=(by omega);have i2:(96:Int)+2*(t:Int)<(G.length:Int):=(by omega);have i3:(0:Int)<=96+2*(t:Int)+1:=(by omega);have i4:(96:Int)+2*(t:Int)+1<(G.length:Int):=(by omega);have n1:((96:Int)+2*(t:Int)).toNat=96+2*t:=(by omega);have n2:((96:Int)+2*(t:Int)+1).toNat=96+2*t+1:=(by omega);clear l o q d f i s;go_enter func110,ntmps110;go_wp2_with fail
 go_region_held3 (λX:World=>X.cell? ⟨b,a+(96+2*t),none⟩=some (.int .u64 (x:Int))/\X.cell? ⟨b,a+(96+2*t+1),none⟩=some (.int .u64 (y:Int))) (go_keep)
  (first | (go_at_call 117;refine (g.out _).mono ?_;rintro e w5 ⟨⟨l,o,rfl,f⟩,d⟩;have m0:=(d.cell (p:=⟨b,a+(96+2*t),none⟩) m).trans j;have m1:=(d.cell (p:=⟨b,a+(96+2*t+1),none⟩) m).trans k;have i:=y5 f;clear f))
 go_wp2;go_ret2;exact⟨⟨l,o,by rw[h.out];rfl,i.out⟩,(kqe _ _).drew.trans d⟩
def gC (x:Nat):List Value:=[.int .i64 (x:Int)]
def bg (x:Bool):List Value:=[.bool x]
theorem sD(x:Nat):(gC x).length=1:=rfl
theorem gG(x:Bool):(bg x).length=1:=rfl
theorem Al(n:Nat):(List.replicate n (0:Int)).flatMap aV=List.replicate n (.int .i64 0):=by
 induction n with
 | zero=>rfl
 | succ n a=>rw[kkv,kzz,a,kkv];rfl
theorem pQ(n:Nat):(List.replicate n false).flatMap bg=List.replicate n (.bool false):=by
 induction n with
 | zero=>rfl
 | succ n a=>rw[kkv,kzz,a,kkv];rfl
theorem DR(l:List Int)(k:Nat)(x:Int):(l.set k x).flatMap aV=(l.flatMap aV).set k (.int .i64 x):=by
 have:=eN aV 1 jI l k 0 (by omega) x (.int .i64 x) (λy _=>rfl)
 simpa using this
theorem nJ(l:List Bool)(k:Nat)(x:Bool):(l.set k x).flatMap bg=(l.flatMap bg).set k (.bool x):=by
 have:=eN bg 1 gG l k 0 (by omega) x (.bool x) (λy _=>rfl)
 simpa using this
theorem mC(l:List Int)(k:Nat)(h:k<l.length):(l.flatMap aV)[k]? = some (.int .i64 (l[k]?.getD 0)):=by
 have:=ja aV 1 jI l k 0 h (by omega)
 simpa [aV,h] using this
theorem jG(l:List Bool)(k:Nat)(h:k<l.length):(l.flatMap bg)[k]? = some (.bool (l[k]?.getD false)):=by
 have:=ja bg 1 gG l k 0 h (by omega)
 simpa [bg,h] using this
theorem Dx:(prog.info? 3).map (λi=>(i.zero,i.size,i.bytes))=some (some (.int .i64 0),1,8):=by kernel_rfl
theorem rZ:(prog.info? 4).map (λi=>(i.zero,i.size,i.bytes))=some (some (.bool false),1,1):=by kernel_rfl
open Classical in
theorem FJ(h:ao G=0)(a:slsOk G=true)(b:qT G):aK G=0:=by simp[aK,h,a,b]
open Classical in
theorem rc_sl(h:ao G=0)(a:slsOk G=false):aK G=50:=by simp[aK,h,a]
open Classical in
theorem F5(h:ao G=0)(a:¬ qT G):aK G=50:=by simp[aK,h,a]
theorem lB(l:List Nat)(x:Nat):(l++[x]).flatMap gC=l.flatMap gC++[.int .i64 (x:Int)]:=by simp[gC]
theorem GL{ys:List Value}(h:w.ownsRow H e 1 (.slice (some ⟨g,0,none⟩) (n+1) c) (n+1) (xs++ys))(f:xs.length=n):w.ownsRow H e 1 (.slice (some ⟨g,0,none⟩) n c) n xs:=by
 refine⟨by rw[f,kjd],.inr ?_⟩;rcases h.2 with⟨a,_⟩|⟨g',cap,b,a,i,j,h4,k,l,m⟩
 .cases a
 simp only[Value.slice.injEq,Option.some.injEq,Addr.mk.injEq,and_true,true_and] at a;obtain⟨rfl,rfl⟩:=a;refine⟨g,c,b,rfl,i,j,by omega,k,l,?_⟩;have d:=congrArg (List.take n) m;rw[kkl,kjd,kxo (by omega),List.take_left' f] at d;rw[kjd];exact d
theorem d6(h:w.ownsRow H e sz (.slice A n c) n xs):n<=c:=by obtain⟨A',c',b,a,-⟩:=kI h;cases b;exact a
theorem GQ(h:w.ownsRow H e sz (.slice (some ⟨g,0,none⟩) n c) n xs){p:Addr}(l:g≠p.block)(u:Value):(w.setCell p u).ownsRow H e sz (.slice (some ⟨g,0,none⟩) n c) n xs:=by
 refine⟨h.1,?_⟩;rcases h.2 with⟨a,_⟩|⟨f,b,d,a,i,j,k⟩
 .cases a
 refine .inr ⟨f,b,d,a,i,?_,k⟩;simp only[Value.slice.injEq,Option.some.injEq,Addr.mk.injEq,and_true,true_and] at a;obtain⟨rfl,rfl⟩:=a;exact (kk1 w p u g l).trans j
def RcRes (G:List Nat) (B:Nat) (e:Ending) (w':World):Prop:=
 (aK G=0/\∃g c,e=.returned (.tuple #[.slice (some ⟨g,0,none⟩) G.length c,.int .i64 0])/\w'.ownsRow B 4 1 (.slice (some ⟨g,0,none⟩) G.length c) G.length ((seenL G).flatMap bg)) \/
 (aK G=50/\e=.returned (.tuple #[.slice none 0 0,.int .i64 50]))
theorem D6(A L:Option Addr)(G:List Nat)(c cl n:Nat)(l:List Bk)(w:World)(g:G.length=n)(hm:n<=9223372036854775807)(h0:ao G=0)(u:aa G=l)(d:RdW w w.heap.size A G)(a:RdB w w.heap.size L l)(b:∀x∈G,x<2^64):
 Calls prog 63 #[.slice A n c,.slice L l.length cl] w λe f=>RcRes G w.heap.size e f/\Below w.heap.size w f:=by
 subst g;obtain⟨HR,HL,HO⟩:=yq1 d a b;obtain⟨g,-⟩:=ax h0;have Mg:=dA G g;obtain⟨Mf,hb2,-⟩:=Mg;have Lr:Hid (∀k,wd G k<18446744073709551616):=y5 (fH b);have U:=y5 (Gr A G c G.length w rfl hm d b);unfold Is at U;have Kb:=y5 h0;clear d a b;cases d:slsOk G
 .have a:=lP g d;have b:fE G=[]:=by simp[fE,a]
  rw[a,b] at U;have HV:=y5 (rc_sl h0 d);clear g d a b h0;go_enter func63,ntmps63;go_wp2_with fail;refine U.out.mono ?_;rintro e r ⟨⟨D,E,rfl,-,-⟩,b⟩;go_wp2;go_ret2;exact⟨.inr ⟨HV.out,rfl⟩,b⟩
 obtain⟨y,z⟩:=jX g d;rw[y,z,fi] at U;have Lx:=y5 d;obtain⟨i0,B,o,q,s⟩:=kzh Dx;obtain⟨i1,hj,i,j,m⟩:=kzh rZ;obtain⟨f,Kc⟩:=yq0 (And.intro B (And.intro o (And.intro q s))) (And.intro hj (And.intro i (And.intro j m)));have Mj:=dI G;rw[u] at Mj;have Lq:=y5 u;have Ku:Hid (∀k (h:k<l.length),l[k].kind=1->∃a t:Nat,l[k].at_=(a:Int)/\l[k].typ=(t:Int)/\a<G.length/\t<128):=y5 (by
  subst u;intro k h h1;obtain⟨a,v,C⟩:=ma h0 h h1;refine⟨a,wd G a/512%128,by rw[v];rfl,by rw[v];rfl,C.2.2.1,kz3 _ (by omega)⟩)
 clear u;clear g d y z B o q s hj i j m h0;go_enter func63,ntmps63;go_wp2_with fail;refine U.out.mono ?_;rintro e r ⟨⟨D,E,rfl,j,-⟩,b⟩;have Lt:=y5 j;obtain⟨W2,C,g,v⟩:=run_make_full (P:=prog) r r.heap.size 42 3 i0 (.int .i64 0) 1 underlying42 f.out.1 f.out.2.1 f.out.2.2.1 .i64 .i64 G.length (by rw[f.out.2.2.2];omega) (by unfold maxLen;omega) (kqa _);have i:W2.ownsRow r.heap.size 3 1 (.slice (some ⟨r.heap.size,0,none⟩) G.length G.length) G.length ((p9 G.length (l.take 0)).flatMap aV):=by show W2.ownsRow _ _ _ _ _ ((List.replicate G.length (0:Int)).flatMap aV);rw[Al,<-toList_madeCells_one];have:=g;rw[kjd] at this;exact this
 have d:=(kqe r.heap.size r).grown v (kqa _) (λk hk=>by cases hk);obtain⟨Me,Kq,HB2,Kr,Kx⟩:=yq3 i b (b.trans (d.mono b.size)) d Lt.out;have Kj:=b.size;have hz2w:=d.size;clear j g v i d b;go_wp2_with fail;clear C;go_loopw [34] (λi wr=>∃k:Nat,k<=l.length/\i=.int .i64 k/\wr.ownsRow r.heap.size 3 1 (.slice (some ⟨r.heap.size,0,none⟩) G.length G.length) G.length ((p9 G.length (l.take k)).flatMap aV)/\Below r.heap.size r wr) (λi _=>l.length-(intOf i).toNat)
 case atStart=>exact⟨0,kqv _,rfl,Me.out,Kr.out⟩
 obtain⟨k,hk,rfl,d,hB⟩:=hrel;have hz:=hB.size;by_cases Kn:k<l.length
 .have s:=Kq.out.trans (hB.mono Kj);obtain⟨b,W,rfl,V,F,I,K,R,S,X⟩:=RdB.at_ (Rd.below HL.out s) Kn;obtain⟨m,z⟩:=yq0 (zJ (n:=G.length) Kn) (Ku.out k Kn);have D:=qW G.length (l.take k);obtain⟨x,hx⟩:=xq (l[k]);obtain⟨tl,j⟩:=xq (p9 G.length (l.take k));rw[hx] at F I K R S X m z;rw[j] at m d D;obtain⟨xa,xs,E,xt,Z,xn⟩:=x;dsimp only at F I K R S X m z;have hlm:(k:Int)<(l.length:Int):=(by omega);clear hx j;by_cases o:E=1
  .obtain ⟨a,t,q,O,Kk,Lf⟩:=z.out o;subst q O;have M:(E==1)=true:=by rw[kqw];exact o
   have y:=y5 (m.out.trans (if_pos o));simp only[kqf] at y;have hw1:IntKind.i64.wrap ((t:Int)+1)=(t:Int)+1:=kqo _ (by omega);have T:(a:Int)<(G.length:Int):=(by omega);have Q:(0:Int)<=(a:Int):=(by omega);have q:=d.alloc (.cells #[.int .i64 (a:Int),.int .i64 xs,.int .i64 E,.int .i64 (t:Int),.bool Z,.int .u64 (xn:Int)] 55);have Y:=(d.cellAt a (by omega)).trans (mC tl a (by omega));have f0:=d.frozenAt a;have J:=(q.cellAt a (by omega)).trans (mC tl a (by omega));have f0':=q.frozenAt a;obtain⟨u,N⟩:=xq (tl[a]?.getD 0);rw[N] at Y J;have hgw:=(d.lt _ rfl).2;have B:=y5 d;clear q;clear o N m d;go_wp2;go_roundw
   case rel =>
    refine⟨k+1,by omega,by go_num,?_,(hB.setCell (p:=⟨r.heap.size,a,none⟩) (kqa _) _).alloc (by rw[kxc];exact hz) _⟩;rw[y.out,DR];exact (B.out.stored a _).1.alloc _
   case measure=>simp[intOf];omega
  have M:(E==1)=false:=by rw[kqc];exact o
  obtain⟨y,B⟩:=yq0 (m.out.trans (if_neg o)) d;clear o m d;go_wp2;go_roundw;exact⟨k+1,by omega,by go_num,by rw[y.out];exact B.out.alloc _,hB.alloc hz _⟩;simp[intOf];omega
 rename World=>wA
 rw[kza (by omega)] at d;obtain⟨tl,j⟩:=xq (p9 G.length l);have D:=qW G.length l;rw[j] at d D;have Kz:Hid (∀a,tb G a=tl[a]?.getD 0):=y5 λa=>by unfold tb;rw[Lq.out,j]
 have Ki:=y5 d;have s:=Kq.out.trans (hB.mono Kj);have S:=y5 s;have M:=s.size;have Lu:=y5 (Rd.below Kx.out hB);clear j d s;obtain⟨R,C,g,v⟩:=run_make_full (P:=prog) wA wA.heap.size 114 4 i1 (.bool false) 1 underlying114 Kc.out.1 Kc.out.2.1 Kc.out.2.2.1 .i64 .i64 G.length (by rw[Kc.out.2.2.2];omega) (by unfold maxLen;omega) (kqa _);have m:R.ownsRow wA.heap.size 4 1 (.slice (some ⟨wA.heap.size,0,none⟩) G.length G.length) G.length ((List.replicate G.length false).flatMap bg):=by rw[pQ,<-toList_madeCells_one];have:=g;rw[kjd] at this;exact this
 obtain⟨Lw,Lj⟩:=yq0 m ((kqe wA.heap.size wA).grown v (kqa _) (λk hk=>by cases hk));have Mi:wA.heap.size<R.heap.size:=by have:=m.lt wA.heap.size rfl;exact this.2
 clear g v m;go_wp2_with fail;clear C;go_loopw [12,54] (λv i g=>∃k:Nat,k<=16/\i=.int .i64 k/\g.ownsRow R.heap.size 3 1 v (yQ G k).length ((yQ G k).flatMap gC)/\Below R.heap.size R g) (λ_ i _=>16-(intOf i).toNat)
 case atStart=>exact⟨0,kqv _,rfl,kq3 _ _ _ _,kqe _ _⟩
 obtain⟨N,hk2,rfl,d,Y⟩:=hrel;have Kp:=Y.size;have q:=Lj.out.trans (Y.mono (kjn Mi));by_cases Le:N<16
 .obtain ⟨b,W,rfl,V,F,I,K⟩:=RdS.at_ (Rd.below Lu.out (q.mono hz)) (show N<(slL G).length by rw[fi];exact Le);rw[lH] at F I K;have B:=y5 (zL G N);have Ke:=uJ G N;obtain⟨-,-,g,j⟩:=io (wd G (112+N));have y:slAt G N=eh (wd G (112+N)):=rfl;rw[<-y] at g j;obtain⟨s,r⟩:=xq (slAt G N);rw[r] at F I K B g j;obtain⟨m,o⟩:=xq (yQ G N);rw[o] at d B Ke;obtain⟨z,C,sa⟩:=s;dsimp only at F I K B g j;obtain⟨u,rfl⟩:=kqz g;rw[kqf] at B;have hk16:(N:Int)<16:=(by omega);have hk00:(0:Int)<=(N:Int):=(by omega);clear y r o q g;cases C
  .have g:=y5 (B.out.trans (by simp:m++(if false=true then [u] else [])=m));clear B;go_wp2;go_roundw;exact⟨N+1,by omega,by go_num,by rw[g.out];exact d.alloc _,Y.alloc Kp _⟩;simp[intOf];omega
  have g:=y5 (show yQ G (N+1)=m++[u] from B.out);clear B;go_wp2_with (at_builtin;refine kq7 _ rfl _ _ 42 rfl R.heap.size 3 i0 _ 1 8 underlying42 f.out.1 f.out.2.1 f.out.2.2.1 f.out.2.2.2 rfl (by decide) _ _ _ rfl ((d.alloc _).alloc _) ⟨_,0,none⟩ 1 1 [.int .i64 (u:Int)] rfl rfl (lM _ _ _ (kqm _ _)) (by simp[Value.oneCell']) (by unfold maxLen;omega) (by omega) (by simp;omega) ?_;intro v1 w2 o J _;have E:=ay (Y.alloc Kp (.cells #[.int .i64 z,.bool true,.int .i64 (u:Int)] 52)) (by simp;omega) (d.alloc _) J);go_roundw;exact⟨N+1,by omega,by go_num,by rw[g.out,kqu,lB];exact o,E⟩;simp[intOf];omega
 obtain rfl:N=16:=(by omega);have g:=Wk.start G;have Ke:=uJ G 16;obtain⟨td0,b⟩:=xq (yQ G 16);rw[b] at g d Ke;obtain⟨Ly,Kv,Ky⟩:=yq1 g d (ag Lw.out Y (kqa _));have j:om (List.replicate G.length false)=G.length:=by simp[om]
 obtain⟨Lo,Lk⟩:=yq0 j q;clear b g d j q;go_wp2_with fail;go_loopg [12] 30000 (λg v b=>∃(d:List Bool) (C:List Nat),g<=30000/\Hid (Wk G d C)/\Hid (om d*9+C.length<=g)/\b.ownsRow wA.heap.size 4 1 (.slice (some ⟨wA.heap.size,0,none⟩) G.length G.length) G.length (d.flatMap bg)/\b.ownsRow R.heap.size 3 1 v C.length (C.flatMap gC)/\R.heap.size<=b.heap.size/\Below wA.heap.size wA b)
 case atStart=>exact⟨List.replicate G.length false,td0,kqa _,Ly.out,by show _<=_;rw[Lo.out];omega,Ky.out,Kv.out,Kp,Lk.out⟩
 obtain⟨d,C,hg30,s,V,q,b,Lg,E⟩:=hrel;have hz5:=E.size;rcases List.eq_nil_or_concat C with rfl|⟨r,a,rfl⟩
 .have u:=s.out.end_;obtain⟨HV,z,X⟩:=yq1 (FJ Kb.out Lx.out u.1) s.out.seenL q;rw[kxd] at b;obtain⟨A6,c6,rfl⟩:=aw b;have Ka:=y5 (S.out.trans (E.mono M));clear u q b V s;go_wp2;go_ret2;exact⟨.inl ⟨HV.out,wA.heap.size,G.length,rfl,by rw[<-z.out];exact ab X.out M⟩,Ka.out⟩
 simp only[List.concat_eq_append,kqu,kj7] at s V b;have D:=V.out;rw[lB] at b;obtain⟨gT,cT,rfl⟩:∃g c,u12=.slice (some ⟨g,0,none⟩) (r.length+1) c:=by obtain⟨g,c,h1,_⟩:=b.form (by omega);exact⟨g,c,h1⟩
 have hcT:=d6 b;have j:=bU gC 1 sD r;rw[kjd] at j;have ct:=(b.cellAt r.length (by omega)).trans (by rw[kxn (by omega),j,kvu];rfl:_=some (.int .i64 (a:Int)));have u:=GL b j;have hgT:=b.lt gT rfl;have hml:r.length<=30000:=(by omega);have hwl:IntKind.i64.wrap ((r.length:Int)+1-1)=(r.length:Int):=by rw[kqo _ (by omega)];omega
 have hd0:decide ((0:Int)<(r.length:Int)+1)=true:=(by rw[kqh];omega);have t0:(0:Int)<=(r.length:Int):=(by omega);have t1:(r.length:Int)<(r.length:Int)+1:=(by omega);have t2:(r.length:Int)<=(cT:Int):=(by omega);obtain⟨Ka,Mc,Kg⟩:=yq1 (S.out.trans (E.mono M)) b u;clear D j u b;by_cases Kk:a<G.length
 .have u:=ag Ki.out E (kqa _);have ca:=(u.cellAt a (by omega)).trans (mC tl a (by omega));have j:=Kz.out a;rw[<-j] at ca;have Mh:decide ((G.length:Int)<=(a:Int))=false:=(by rw[kqb];omega);have Ld:decide (G.length<=a)=false:=(by rw[kqb];omega);have Q:(0:Int)<=(a:Int):=(by omega);have T:(a:Int)<(G.length:Int):=(by omega);clear u j;by_cases j:tb G a=0
  .have HV:=y5 (F5 Kb.out (s.out.bad j));rw[j] at ca;clear j q;go_wp2;go_ret2;exact⟨.inr ⟨HV.out,rfl⟩,Ka.out⟩
  obtain⟨u,z⟩:=iy Kb.out j;have Kt:=y5 u;have Ml:(tb G a==0)=false:=by rw[kqc];exact j
  have Ke:=s.out.hlen;have cs:=(q.cellAt a (by omega)).trans (jG d a (by omega));have Lz:=y5 j;obtain⟨t,O⟩:∃t:Nat,(aq (wd G a)).typ=(t:Int):=⟨wd G a/512%128,rfl⟩;have Lf:t<8:=by have h7:=(bC _).1 (gl u.2.2.2.1);have h5:=u.2.2.2.2.1;omega
  have Ln:Hid (flds G a=bB (wd G (96+2*t)) (wd G (96+2*t+1))):=y5 (by unfold flds;rw[O];rfl);rw[O] at z;rw[z] at ca Ml;have Md:=y5 z;have hwt:IntKind.i64.wrap ((t:Int)+1-1)=(t:Int):=by rw[kqo _ (by omega)];omega
  clear u z j O;cases y:d[a]?.getD false
  .rw[y] at cs;have Q:=q.frozenAt a;have I:d[a]? = some false:=by rw[kqg (by omega)] at y |-;rw[kq9] at y;rw[y]
   obtain⟨Lb,Lp⟩:=yq0 (s.out.new_ Lz.out) (yv I);have B:=y5 (show (wr.setCell ⟨wA.heap.size,a,none⟩ (.bool true)).ownsRow wA.heap.size 4 1 (.slice (some ⟨wA.heap.size,0,none⟩) G.length G.length) G.length ((d.set a true).flatMap bg) by
    rw[nJ];exact (q.stored a (.bool true)).1)
   have u:=E.setCell (p:=⟨wA.heap.size,a,none⟩) (kqa _) (.bool true);have Ks:=y5 u;have z:(wr.setCell ⟨wA.heap.size,a,none⟩ (.bool true)).ownsRow R.heap.size 3 1 (.slice (some ⟨gT,0,none⟩) r.length cT) r.length (r.flatMap gC):=GQ Kg.out (p:=⟨wA.heap.size,a,none⟩) (by show gT≠wA.heap.size;omega) (.bool true);have Kw:=y5 z;have c6:=(ag Ki.out u (kqa _)).cellAt a (by omega) |>.trans (mC tl a (by omega));rw[<-Kz.out a,Md.out] at c6;have O:=y5 (λW (h:RdW W W.heap.size A G)=>xX A G c G.length t W rfl (by omega) Mf Lf h HO.out);unfold Gw at O;rw[<-Ln.out] at O;clear q Mc;have Lc:=ud G a;have Kf:Hid (∀j,j<(flds G a).length->a+2+j<G.length):=y5 λj hj=>nk Kt.out hj;have La:Hid (∀j,mK G a (j+1)=mK G a j++(if (flds G a)[j]? = some 3/\wd G (a+2+j)≠0 then [min (wd G (a+2+j)) 2048] else [])):=y5 λj=>Cj G a j;have Mb:Hid (∀j,(mK G a j).length<=j):=y5 λj=>EW G a j;have Ls:=y5 (HR.out.up (S.out.trans (u.mono M)) (S.out.trans (u.mono M)).size);obtain⟨F,K⟩:=xq (flds G a);rw[K] at O Lb Lc Kf La;have hw2:IntKind.i64.wrap ((a:Int)+2)=(a:Int)+2:=kqo _ (by omega);have D:=V.out;clear K u z y I;go_wp2_with fail;refine (O.out _ Ls.out).mono ?_;rintro e w7 ⟨⟨A7,c7,rfl,z⟩,u⟩;have Lm:=y5 z;have Ll:=yq7 Ks u;obtain⟨Lv,Ma⟩:=yq0 (ag B.out u (kqa _)) (ag Kw.out u (kqa _));have Lh:R.heap.size<=w7.heap.size:=by have:=u.size;rw[kxc] at this;omega
   clear u z cs ca c6 ct Q;go_wp2_with fail;go_loopw [12,110] (λv i u=>∃j:Nat,j<=F.length/\i=.int .i64 j/\u.ownsRow R.heap.size 3 1 v (r++mK G a j).length ((r++mK G a j).flatMap gC)/\u.ownsRow wA.heap.size 4 1 (.slice (some ⟨wA.heap.size,0,none⟩) G.length G.length) G.length ((d.set a true).flatMap bg)/\(∃H,u.ownsRow H 5 1 (.slice A7 F.length c7) F.length (F.flatMap bq))/\R.heap.size<=u.heap.size/\Below wA.heap.size wA u) (λ_ i _=>F.length-(intOf i).toNat)
   case atStart=>exact⟨0,kqv _,rfl,by rw[show r++mK G a 0=r from kzf r];exact Ma.out,Lv.out,⟨_,Lm.out⟩,Lh,Ll.out⟩
   obtain⟨j,hj,rfl,b,q,⟨H8,W⟩,Eq,I⟩:=hrel;have Li:=I.size;have Km:(r++mK G a j).length<=r.length+j:=by rw[kqu];have:=Mb.out j;omega
   by_cases Z:j<F.length
   .obtain ⟨bF,oF,rfl,hbF,y0⟩:=RdY.at_ (show RdY wr wr.heap.size A7 F from Rd.of_own W) Z;have Kl:=Kf.out j Z;have Kd:=HR.out.up (S.out.trans (I.mono M)) (S.out.trans (I.mono M)).size;obtain⟨bW,oW,rfl,hbW,x0⟩:=RdW.at_ Kd Kl;rw[<-bY] at x0;have v:=y5 (La.out j);rw[kqg Z] at v;have K:=Lr.out (a+2+j);have Kh:=y5 (gR W b (by decide));obtain⟨kd,Ko⟩:=xq (F[j]);obtain⟨x,hx⟩:=xq (wd G (a+2+j));obtain⟨m,z⟩:=xq (r++mK G a j);rw[Ko] at y0 v;rw[hx] at x0 v K;rw[z] at b Km;have T:Hid (r++mK G a (j+1)=m++(if some kd=some 3/\x≠0 then [min x 2048] else [])):=y5 (by rw[v.out,<-kx9,z]);have hji:(j:Int)<(F.length:Int):=(by omega);have hj0:(0:Int)<=(j:Int):=(by omega);have hw3:IntKind.i64.wrap ((a:Int)+2+(j:Int))=(a:Int)+2+(j:Int):=kqo _ (by omega);have i0':(0:Int)<=(a:Int)+2+(j:Int):=(by omega);have i1':(a:Int)+2+(j:Int)<(G.length:Int):=(by omega);have it':((a:Int)+2+(j:Int)).toNat=a+2+j:=(by omega);have hmm:m.length<=40000:=(by omega);obtain⟨i,u,Q,HXL⟩:=yq2 b q W K;clear v Ko hx z Kd q W Kl K;by_cases K:kd=3
    .have e3:((kd:Int) != 3)=false:=(by rw[kqt];omega);have e3n:(kd != 3)=false:=by rw[kqt];exact K
     by_cases v:x=0
     .have e0:((x:Int)==0)=true:=(by rw[kqw];omega);have z:(x==0)=true:=by rw[kqw];exact v
      have HY:=y5 (show r++mK G a (j+1)=m by rw[T.out,if_neg (λh=>h.2 v),kzf]);clear K v T b;go_wp2;go_roundw;exact⟨j+1,by omega,by go_num,by rw[HY.out];exact i.out,u.out,⟨_,Q.out⟩,Eq,I⟩;simp[intOf];omega
     have e0:((x:Int)==0)=false:=(by rw[kqc];omega);have z:(x==0)=false:=by rw[kqc];exact v
     have HY:=y5 (show r++mK G a (j+1)=m++[min x 2048] by rw[T.out,if_pos ⟨by rw[K],v⟩]);clear K v T;have Ko:=λ(z:Int) (h0:0<=z) (h1:z<=2048)=>show IntKind.i64.wrap z=z from kqo _ (by omega);have Kd:min x 2048=x/\x<=2048\/min x 2048=2048/\2048<x:=(by omega);rcases Kd with⟨D,Mm⟩|⟨D,Mm⟩
     .rw[D] at HY;have hwx:=Ko (x:Int) (by omega) (by omega);have hmin:(if (x:Int)<2048 then (x:Int) else 2048)=(x:Int):=by split<;>omega
      clear Ko D;go_wp2_with (at_builtin;refine kq7 _ rfl _ _ 42 rfl R.heap.size 3 i0 _ 1 8 underlying42 f.out.1 f.out.2.1 f.out.2.2.1 f.out.2.2.2 rfl (by decide) _ _ _ rfl (i.out.alloc _) ⟨_,0,none⟩ 1 1 [.int .i64 (x:Int)] rfl rfl (bc _ _ _) (by simp[Value.oneCell']) (by unfold maxLen;omega) (by omega) (by simp;omega) ?_;intro v1 w9 o J _;have z:=y5 o;have v:=y5 J;clear o J);go_roundw
      case rel =>
       have Kl:=v.out.size;rw[kqm] at Kl;refine⟨j+1,by omega,by go_num,by rw[HY.out,kqu,lB];exact z.out,(u.out.alloc _).kept v.out (.inr ?_),⟨_,(Q.out.alloc _).kept v.out Kh.out⟩,by omega,(I.alloc Li _).grown v.out (by rw[kqm];omega) (λk hk=>by have:=(i.out.lt k hk).1;omega)⟩;intro h;have:=(i.out.lt wA.heap.size h.symm).1;omega
      case measure=>simp[intOf];omega
     rw[D] at HY;have hxi1:(2048:Int)<(x:Int):=(by omega);have hxi2:¬ (x:Int)<2048:=(by omega);have hxi3:¬ (x:Int)<=2048:=(by omega);have hxi4:¬ x<2048:=(by omega);have hxi5:¬ x<=2048:=(by omega);clear Ko D;go_wp2_with (at_builtin;refine kq7 _ rfl _ _ 42 rfl R.heap.size 3 i0 _ 1 8 underlying42 f.out.1 f.out.2.1 f.out.2.2.1 f.out.2.2.2 rfl (by decide) _ _ _ rfl (i.out.alloc _) ⟨_,0,none⟩ 1 1 [.int .i64 2048] rfl rfl (bc _ _ _) (by simp[Value.oneCell']) (by unfold maxLen;omega) (by omega) (by simp;omega) ?_;intro v1 w9 o J _;have z:=y5 o;have v:=y5 J;clear o J);go_roundw
     case rel =>
      have Kl:=v.out.size;rw[kqm] at Kl;refine⟨j+1,by omega,by go_num,by rw[HY.out,kqu,lB];exact z.out,(u.out.alloc _).kept v.out (.inr ?_),⟨_,(Q.out.alloc _).kept v.out Kh.out⟩,by omega,(I.alloc Li _).grown v.out (by rw[kqm];omega) (λk hk=>by have:=(i.out.lt k hk).1;omega)⟩;intro h;have:=(i.out.lt wA.heap.size h.symm).1;omega
     case measure=>simp[intOf];omega
    have e3:((kd:Int) != 3)=true:=(by rw[kqx];omega);have e3n:(kd != 3)=true:=by rw[kqx];exact K
    have HY:=y5 (show r++mK G a (j+1)=m by rw[T.out,if_neg (λh=>K (Option.some.inj h.1)),kzf]);clear K T b;go_wp2;go_roundw;exact⟨j+1,by omega,by go_num,by rw[HY.out];exact i.out,u.out,⟨_,Q.out⟩,Eq,I⟩;simp[intOf];omega
   obtain rfl:j=F.length:=(by omega);obtain⟨i,u⟩:=yq0 b q;have hfs:=Lp.out;clear b q W;go_wp2;go_roundg (gk-1)
   case rel=>exact⟨d.set a true,r++mK G a F.length,by omega,Lb.out,by show _<=_;omega,u.out,i.out,Eq,I⟩
   case measure=>omega
  rw[y] at cs;have i:=y5 (s.out.old (show d[a]? = some true by
   rw[kqg (by omega)] at y |-;rw[kq9] at y;rw[y]))
  have X:=y5 q;have D:=V.out;clear q y s;go_wp2;go_roundg (gk-1)
  case rel=>exact⟨d,r,by omega,i.out,by show _<=_;omega,X.out,Kg.out,Lg,E⟩
  case measure=>omega
 have Mh:decide ((G.length:Int)<=(a:Int))=true:=(by rw[kqh];omega);have Ld:decide (G.length<=a)=true:=(by rw[kqh];omega);have HV:=y5 (F5 Kb.out (s.out.bad (by
  by_cases h:tb G a=0
  .exact h
  exact absurd (tT h) Kk)))
 clear q Kk;go_wp2;go_ret2;exact⟨.inr ⟨HV.out,rfl⟩,Ka.out⟩
def uB (S:List Bool) (k:Nat):List Int:=((List.range k).filter λa=>S[a]?.getD false).map λa:Nat=>(a:Int)
theorem Dl(G:List Nat):(seenL G).length=G.length:=by simp[seenL]
theorem kS(h:a<G.length):(seenL G)[a]?.getD false=true↔Rch G a:=by unfold seenL;rw[kxk,kvq h];simp
theorem fk(h:aK G=0):fB G=uB (seenL G) G.length:=by
 unfold fB uB;rw[if_pos h];congr 1;refine List.filter_congr λa c=>?_;have b:=kS (G:=G) (kzn.1 c);cases c:(seenL G)[a]?.getD false
 .rw[c] at b
  simpa using b
 rw[c] at b
 simpa using b
theorem uE(h:aK G≠0):fB G=[]:=by unfold fB;rw[if_neg h]
theorem ze(h:ao G≠0):aK G=ao G:=by unfold aK;rw[if_neg h]
end Go.Proofs.YtpcajamacpbjcaaGreat
