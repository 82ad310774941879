/- Texts laid together: RchP Hnd Hnd2 Flds Rch Rcd. -/
import Derived.Test.YtpcajamacpbjcaaGreatZKHead
import Derived.Test.YtpcajamacpbjcaaGreatZKHeap
import Derived.Deep.RegionHeld3
import Derived.Deep.DrawnRows
import Derived.Laws.OwnMore
set_option maxHeartbeats 16000000
set_option maxRecDepth 100000
set_option linter.all false
namespace Go.Proofs.YtpcajamacpbjcaaGreat
open Lib (hid)
variable {fn:Func}{seen:List Bool}{todo ws:List Nat}{xs:List Value}{B H a b c g i j k n sz x:Nat}{A:Option Addr}{p q:Tmp}{e t:TypeId}{u:Value}{W w w':World}
open Go.Proofs.Tryz
structure Sl where
 gen:Int
 used:Bool
 at_:Int
 deriving DecidableEq,Inhabited
def Sl.cells (x:Sl):List Value:=[.int .i64 x.gen,.bool x.used,.int .i64 x.at_]
theorem Sl.len(x:Sl):x.cells.length=3:=rfl
def dX (w:Nat):Sl:=⟨((w/4294967296%2147483648:Nat):Int),w/9223372036854775808==1,((w%4294967296:Nat):Int)⟩
def mX (s:Sl):Bool:=if s.used=true then decide (0<s.gen)&&(decide (128<=s.at_)&&decide (s.at_<2048)) else s.at_==0
def slAt (ws:List Nat) (i:Nat):Sl:=dX (wd ws (112+i))
def pt (ws:List Nat) (k:Nat):Prop:=∀i,i<k->mX (slAt ws i)=true
theorem pS(ws:List Nat):pt ws 0:=λi h=>absurd h (by omega)
theorem pQ(h:pt ws k)(h1:mX (slAt ws k)=true):pt ws (k+1):=λi hi=>by
 rcases kq7 i k with a|a
 .exact h i a
 .have:i=k:=by omega
  subst this;exact h1
def slsOk (ws:List Nat):Bool:=(List.range 16).all λi=>mX (slAt ws i)
theorem cG(ws:List Nat):slsOk ws=true↔pt ws 16:=by unfold slsOk pt;rw[kzv];exact⟨λh i a=>h i (kzi.2 a),λh i a=>h i (kzi.1 a)⟩
theorem sd(hk:k<16)(h:mX (slAt ws k)=false):slsOk ws=false:=by
 cases a:slsOk ws with
 | false=>rfl
 | true=>rw[(cG ws).1 a k hk] at h;cases h
def slL (ws:List Nat):List Sl:=(List.range 16).map (slAt ws)
theorem fA(ws:List Nat):(slL ws).length=16:=by simp[slL]
theorem nY(ws:List Nat)(h:i<(slL ws).length):(slL ws)[i]=slAt ws i:=by simp[slL]
def dV (ws:List Nat):Int:=if ak (ws.length:Int)=true then (if slsOk ws=true then 0 else 50) else 8
def fu (ws:List Nat):List Sl:=if dV ws=0 then slL ws else []
theorem zc(h:ak (ws.length:Int)=false):dV ws=8:=by simp[dV,h]
theorem lY(h:ak (ws.length:Int)=true)(h2:slsOk ws=false):dV ws=50:=by simp[dV,h,h2]
theorem jL(h:ak (ws.length:Int)=true)(h2:slsOk ws=true):dV ws=0/\fu ws=slL ws:=by simp[fu,dV,h,h2]
theorem gj(w:Nat):0<=(dX w).gen/\(dX w).gen<=2147483647/\0<=(dX w).at_/\(dX w).at_<=4294967295:=by unfold dX;dsimp only;have h1:=kz0 (w/4294967296) (show 0<2147483648 by omega);have h2:=kz0 w (show 0<4294967296 by omega);omega
theorem uY{s:Sl}(h:mX s=true)(hu:s.used=true):0<s.gen/\128<=s.at_/\s.at_<2048:=by
 unfold mX at h;rw[if_pos hu] at h
 simpa using h
def qR (n:Nat) (l:List Bk):List Int:=l.foldl (λt b=>if b.kind=1 then t.set b.at_.toNat (b.typ+1) else t) (List.replicate n 0)
theorem Ae{l:List Bk}(hk:k<l.length):qR n (l.take (k+1))=if l[k].kind=1 then (qR n (l.take k)).set l[k].at_.toNat (l[k].typ+1) else qR n (l.take k):=by unfold qR;rw[kqp hk,List.foldl_append];rfl
theorem sS(t:List Int)(l:List Bk):(l.foldl (λt b=>if b.kind=1 then t.set b.at_.toNat (b.typ+1) else t) t).length=t.length:=by
 induction l generalizing t with
 | nil=>rfl
 | cons b l ih=>simp only[kxv];rw[ih];split<;>simp
theorem qp(n:Nat)(l:List Bk):(qR n l).length=n:=by unfold qR;rw[sS,kjp]
theorem ED(l:List Bk)(t:List Int)(P:Nat->Int->Prop)(h0:∀a,(t[a]?.getD 0)=0\/P a (t[a]?.getD 0))(h1:∀b∈l,b.kind=1->P b.at_.toNat (b.typ+1))(a:Nat):
 ((l.foldl (λt b=>if b.kind=1 then t.set b.at_.toNat (b.typ+1) else t) t)[a]?.getD 0)=0\/P a ((l.foldl (λt b=>if b.kind=1 then t.set b.at_.toNat (b.typ+1) else t) t)[a]?.getD 0):=by
 induction l generalizing t with
 | nil=>exact h0 a
 | cons b l ih =>
  simp only[kxv];refine ih _ (λa=>?_) (λx c=>h1 x (by simp[c]));split
  .rename_i hk;rw[kxi];split
   .rename_i e;subst e;split
    .right;exact h1 b (by simp) hk
    left;rfl
   exact h0 a
  exact h0 a
theorem Js(l:List Bk)(t:List Int)(a:Nat)(ha:a<t.length)(h:(t[a]?.getD 0)≠0\/∃b∈l,b.kind=1/\b.at_.toNat=a)(hty:∀b∈l,b.kind=1->0<=b.typ):
 ((l.foldl (λt b=>if b.kind=1 then t.set b.at_.toNat (b.typ+1) else t) t)[a]?.getD 0)≠0:=by
 induction l generalizing t with
 | nil =>
  rcases h with h|⟨b,i,-⟩
  .exact h
  cases i
 | cons b l ih =>
  simp only[kxv];refine ih _ (by split<;>simp[ha]) ?_ (λx c=>hty x (by simp[c]));by_cases g:b.kind=1
  .rw[if_pos g,kxi];by_cases e:b.at_.toNat=a
   .left;rw[if_pos e,if_pos (by omega)];have:=hty b (by simp) g;simp only[kq5,ne_eq];omega
   rw[if_neg e];rcases h with h|⟨x,c,f,d⟩
   .exact .inl h
   rcases kqw.1 c with rfl|c
   .exact absurd d e
   exact .inr ⟨x,c,f,d⟩
  rw[if_neg g];rcases h with h|⟨x,c,f,d⟩
  .exact .inl h
  rcases kqw.1 c with rfl|c
  .exact absurd f g
  exact .inr ⟨x,c,f,d⟩
def tb (ws:List Nat) (a:Nat):Int:=(qR ws.length (ah ws))[a]?.getD 0
theorem ro(h:tb ws a≠0):a<ws.length:=by
 rcases kq7 a ws.length with b|b
 .exact b
 unfold tb at h;rw[kzc (by rw[qp];exact b)] at h;exact absurd rfl h
def fi (ws:List Nat) (a:Nat):Prop:=128<=a/\a%2=0/\a<ws.length/\stands ws a=true/\(ap (wd ws a)).kind=1/\dW ws (bkAt ws a)=true/\∃k,∃h:k<(ah ws).length,(ah ws)[k]=bkAt ws a/\blocks ws a=some ((ah ws).drop k)
theorem mL(h:aj ws=0)(hk:k<(ah ws).length)(h1:(ah ws)[k].kind=1):∃a,(ah ws)[k]=bkAt ws a/\fi ws a:=by obtain⟨hs,l,d,c,e⟩:=aA h;subst e;obtain⟨a,b,i,m,j,f,g⟩:=cC _ _ d (by omega) k hk;refine⟨a,b,m,i,j,f,by rw[b] at h1;exact h1,?_,k,hk,b,g⟩;rw[kzv] at c;rw[<-b];exact c _ (kqn hk)
theorem iU(h:aj ws=0)(ht:tb ws a≠0):fi ws a/\tb ws a=(ap (wd ws a)).typ+1:=by
 have c:=ED (ah ws) (List.replicate ws.length 0) (λa v=>fi ws a/\v=(ap (wd ws a)).typ+1) (λa=>.inl (by
  rw[kke];split<;>rfl)) (λb e f=>by
  obtain⟨k,d,rfl⟩:=kq0 e;obtain⟨a,i,g⟩:=mL h d f;rw[i];have:(bkAt ws a).at_.toNat=a:=by rw[af,kqj]
  rw[this];exact⟨g,rfl⟩) a
 exact c.resolve_left ht
theorem obj_tb(h:aj ws=0)(ho:fi ws a):tb ws a=(ap (wd ws a)).typ+1/\tb ws a≠0:=by
 obtain⟨h1,h2,f,h4,i,h6,k,j,e,h8⟩:=ho;have c:tb ws a≠0:=by unfold tb qR;refine Js _ _ _ (by rw[kjp];exact f) (.inr ⟨_,kqn j,by rw[e];exact i,by rw[e,af,kqj]⟩) (λb g d=>?_);obtain⟨m,n,rfl⟩:=kq0 g;obtain⟨a',l,e2⟩:=mL h n d;rw[l];show 0<=((_:Nat):Int);omega
 exact⟨(iU h c).2,c⟩
def flds (ws:List Nat) (a:Nat):List Nat:=bq (wd ws (96+2*(ap (wd ws a)).typ.toNat)) (wd ws (96+2*(ap (wd ws a)).typ.toNat+1))
theorem DP(ws:List Nat)(a:Nat):(flds ws a).length<=8:=lE _ _
theorem um(h:fi ws a)(hi:i<(flds ws a).length):a+2+i<ws.length:=by
 obtain⟨h1,h2,h3,j,e,f,-⟩:=h;have hs:=aJ j;have g:dW ws (bkAt ws a)=dj ws (bkAt ws a):=by
  unfold dW;have:((bkAt ws a).kind != 1)=false:=by rw[kqr];exact e
  rw[this,kvk]
 have c:=jY (ws:=ws) (b:=bkAt ws a) e;rw[g] at f;rw[g,f] at c;have c:=c.symm;simp only[kqu,kqx] at c;have d:=c.2;rw[bo] at d;have h8:(flds ws a).length=(bq (wd ws (tyA (bkAt ws a))) (wd ws (tyA (bkAt ws a)+1))).length:=rfl;unfold bg at d;omega
inductive Rch (ws:List Nat):Nat->Prop
 | slot (i:Nat) (hi:i<16) (hu:(slAt ws i).used=true):Rch ws (slAt ws i).at_.toNat
 | ref (a i:Nat) (ha:Rch ws a) (ht:tb ws a≠0) (hi:(flds ws a)[i]? = some 3) (hv:wd ws (a+2+i)≠0):Rch ws (min (wd ws (a+2+i)) 2048)
def qh (ws:List Nat):Prop:=∀a,Rch ws a->tb ws a≠0
def nb (ws:List Nat) (a:Nat) (j:Nat):List Nat:=(List.range j).filterMap λi=>if (flds ws a)[i]? = some 3/\wd ws (a+2+i)≠0 then some (min (wd ws (a+2+i)) 2048) else none
theorem A8(ws:List Nat)(a j:Nat):nb ws a (j+1)=nb ws a j++(if (flds ws a)[j]? = some 3/\wd ws (a+2+j)≠0 then [min (wd ws (a+2+j)) 2048] else []):=by unfold nb;rw[kk4,kvd];congr 1;simp only[kvm,kvt];split<;>simp_all
theorem Ek(ws:List Nat)(a j:Nat):(nb ws a j).length<=j:=by unfold nb;have:=kky (λi=>if (flds ws a)[i]? = some 3/\wd ws (a+2+i)≠0 then some (min (wd ws (a+2+i)) 2048) else none) (List.range j);rwa [kkn] at this
theorem Fu(h:x∈nb ws a j):∃i,(flds ws a)[i]? = some 3/\wd ws (a+2+i)≠0/\x=min (wd ws (a+2+i)) 2048:=by
 unfold nb at h;rw[kj5] at h;obtain⟨i,-,b⟩:=h;split at b
 .rename_i h3;injection b with b;exact⟨i,h3.1,h3.2,b.symm⟩
 cases b
theorem FI(h1:(flds ws a)[i]? = some 3)(h2:wd ws (a+2+i)≠0):min (wd ws (a+2+i)) 2048∈nb ws a (flds ws a).length:=by unfold nb;rw[kj5];refine⟨i,kzi.2 (kza.1 h1).1,?_⟩;rw[if_pos ⟨h1,h2⟩]
structure Wk (ws:List Nat) (seen:List Bool) (todo:List Nat):Prop where
 hlen:seen.length=ws.length
 htodo:∀a∈todo,Rch ws a
 hseen:∀a,seen[a]? = some true->Rch ws a/\tb ws a≠0
 hslot:∀i,i<16->(slAt ws i).used=true->(slAt ws i).at_.toNat∈todo\/seen[(slAt ws i).at_.toNat]? = some true
 href:∀a i,seen[a]? = some true->(flds ws a)[i]? = some 3->wd ws (a+2+i)≠0->min (wd ws (a+2+i)) 2048∈todo\/seen[min (wd ws (a+2+i)) 2048]? = some true
theorem Wk.bad(h:Wk ws seen (todo++[a]))(h0:tb ws a=0):¬ qh ws:=λb=>b a (h.htodo a (by simp)) h0
theorem Wk.old(h:Wk ws seen (todo++[a]))(h1:seen[a]? = some true):Wk ws seen todo:=by
 have c:∀x,x∈todo++[a]\/seen[x]? = some true->x∈todo\/seen[x]? = some true:=by
  intro x b;rcases b with b|b
  .rcases kzo.1 b with b|b
   .exact .inl b
   rw[kqy] at b;subst b;exact .inr h1
  exact .inr b
 exact⟨h.hlen,λx b=>h.htodo x (by simp[b]),h.hseen,λi g f=>c _ (h.hslot i g f),λx i b e d=>c _ (h.href x i b e d)⟩
theorem Wk.new_(h:Wk ws seen (todo++[a]))(h0:tb ws a≠0):Wk ws (seen.set a true) (todo++nb ws a (flds ws a).length):=by
 have k:=h.hlen;have g:=ro h0;have c:∀x,(seen.set a true)[x]? = some true↔x=a\/seen[x]? = some true:=by
  intro x;rw[kxi];by_cases e:a=x
  .subst e;simp[k,g]
  rw[if_neg e];constructor
  .exact .inr
  rintro (j|j)
  .exact absurd j.symm e
  exact j
 have f:∀x,x∈todo++[a]\/seen[x]? = some true->x∈todo++nb ws a (flds ws a).length\/(seen.set a true)[x]? = some true:=by
  intro x b;rw[c];rcases b with b|b
  .rcases kzo.1 b with b|b
   .exact .inl (by simp[b])
   rw[kqy] at b;exact .inr (.inl b)
  exact .inr (.inr b)
 have d:Rch ws a:=h.htodo a (by simp);refine⟨by rw[kq3];exact k,λx b=>?_,λx b=>?_,λi p o=>f _ (h.hslot i p o),λx i b m l=>?_⟩
 .rcases kzo.1 b with b|b
  .exact h.htodo x (by simp[b])
  obtain⟨i,q,n,rfl⟩:=Fu b;exact Rch.ref a i d h0 q n
 .rcases (c x).1 b with rfl|b
  .exact ⟨d,h0⟩
  exact h.hseen x b
 rcases (c x).1 b with rfl|b
 .exact .inl (by rw[kzo];exact .inr (FI m l))
 exact f _ (h.href x i b m l)
theorem Wk.end_(h:Wk ws seen []):qh ws/\∀a,seen[a]? = some true↔Rch ws a:=by
 have b:∀a,Rch ws a->seen[a]? = some true:=by
  intro a c
  induction c with
  | slot i hi hu=>exact (h.hslot i hi hu).resolve_left (by simp)
  | ref a i c ht hi hv ih=>exact (h.href a i ih hi hv).resolve_left (by simp)
 exact⟨λa c=>(h.hseen a (b a c)).2,λa=>⟨λd=>(h.hseen a d).1,b a⟩⟩
def uR (ws:List Nat) (k:Nat):List Nat:=(List.range k).filterMap λi=>if (slAt ws i).used=true then some (slAt ws i).at_.toNat else none
theorem BV(ws:List Nat)(k:Nat):uR ws (k+1)=uR ws k++(if (slAt ws k).used=true then [(slAt ws k).at_.toNat] else []):=by unfold uR;rw[kk4,kvd];congr 1;simp only[kvm,kvt];split<;>simp_all
theorem vB(ws:List Nat)(k:Nat):(uR ws k).length<=k:=by unfold uR;have:=kky (λi=>if (slAt ws i).used=true then some (slAt ws i).at_.toNat else none) (List.range k);rwa [kkn] at this
theorem Wk.start(ws:List Nat):Wk ws (List.replicate ws.length false) (uR ws 16):=by
 have d:∀a:Nat,(List.replicate ws.length false)[a]? ≠ some true:=by intro a;rw[kke];split<;>simp
 refine⟨kjp,λa b=>?_,λa b=>absurd b (d a),λi e f=>.inl ?_,λa i b=>absurd b (d a)⟩
 .unfold uR at b;rw[kj5] at b;obtain⟨i,e,c⟩:=b;split at c
  .rename_i h3;injection c with c;subst c;exact Rch.slot i (kzi.1 e) h3
  cases c
 unfold uR;rw[kj5];exact⟨i,kzi.2 e,by rw[if_pos f]⟩
open Classical in
noncomputable def aC (ws:List Nat):Int:=if aj ws=0 then (if slsOk ws=true then (if qh ws then 0 else 50) else 50) else aj ws
open Classical in
noncomputable def seenL (ws:List Nat):List Bool:=(List.range ws.length).map λa=>decide (Rch ws a)
open Classical in
noncomputable def dm (ws:List Nat):List Int:=if aC ws=0 then ((List.range ws.length).filter λa=>decide (Rch ws a)).map (λa:Nat=>(a:Int)) else []
theorem Wk.seenL(h:Wk ws seen []):seen=seenL ws:=by
 have f:=h.end_.2;apply kx8;intro a;unfold Proofs.YtpcajamacpbjcaaGreat.seenL;by_cases b:a<ws.length
 .have c:a<seen.length:=by rw[h.hlen];exact b
  rw[kxh,kvn b,kql c];simp only[kzz,Option.some.injEq];have:=f a;rw[kql c,Option.some.injEq] at this;cases d:seen[a] with
  | true=>rw[d] at this;simp[this.1 rfl]
  | false =>
   rw[d] at this;have e:¬ Rch ws a:=λg=>by have:=this.2 g;cases this
   simp[e]
 rw[kzc (by rw[h.hlen];omega),kzc (by simp;omega)]
def oC (l:List Bool):Nat:=(l.filter (! ·)).length
theorem yY{l:List Bool}(h:l[a]? = some false):oC (l.set a true)+1=oC l:=by
 induction l generalizing a with
 | nil=>simp at h
 | cons b l ih =>
  cases a with
  | zero =>simp only[List.getElem?_cons_zero,Option.some.injEq] at h;subst h;simp[oC]
  | succ a =>simp only[kkd] at h;have:=ih h;unfold oC at this |-;cases b<;>simp_all<;>omega
open Go.RowKit
def Sl.val (x:Sl):Value:=.agg #[.int .i64 x.gen,.bool x.used,.int .i64 x.at_]
theorem vn(g:Int)(u:Bool)(a:Int)(w:World)(h1:0<=g)(h2:g<=2147483647):
 Calls prog 171 #[.agg #[.int .i64 g,.bool u,.int .i64 a]] w λe w'=>e=.returned (.bool (mX ⟨g,u,a⟩))/\Below w.heap.size w w':=by
 have f:=(kqk w.heap.size w).alloc (kqa _) (.cells #[.int .i64 g,.bool u,.int .i64 a] 52);have i:=hid f;have d1:decide (g<0)=false:=by rw[kqh];omega
 have d2:decide (2147483647<g)=false:=by rw[kqh];omega
 clear f;cases u
 .have H:Hid (mX ⟨g,false,a⟩=(a==0)):=hid rfl;go_enter func171,ntmps171;go_wp2;go_ret;exact⟨by rw[H.out];rfl,i.out⟩
 have H:Hid (∀b:Bool,b=(decide (0<g)&&(decide (128<=a)&&decide (a<2048)))->mX ⟨g,true,a⟩=b):=hid λb h=>by rw[h];rfl
 have c:(∃b,decide (0<g)=b)/\(∃b,decide (128<=a)=b)/\∃b,decide (a<2048)=b:=⟨⟨_,rfl⟩,⟨_,rfl⟩,⟨_,rfl⟩⟩;obtain⟨⟨k,m⟩,⟨j,l⟩,⟨n,o⟩⟩:=c;have d:=hid (H.out _ rfl);rw[m,l,o] at d;clear H h1 h2;cases k<;>cases j<;>cases n
 all_goals
  go_enter func171,ntmps171;go_wp2;go_ret;exact⟨by rw[d.out];rfl,i.out⟩
def slB (x:Nat):Sl:=if mX (dX x)=true then dX x else ⟨0,false,0⟩
def yr (x:Nat):Int:=if mX (dX x)=true then 0 else 50
theorem yS(h:mX (dX x)=true):slB x=dX x/\yr x=0:=by simp[slB,yr,h]
theorem xV(h:mX (dX x)=false):slB x=⟨0,false,0⟩/\yr x=50:=by simp[slB,yr,h]
theorem kv(h:fn.results=#[.cell p 52,.tmp q])(tmps:Array Value){v0 v1 v2:Value}(hb:Bx W g t #[v0,v1,v2])(hp:tmps.getD p undef=.pointer (some ⟨g,0,none⟩))(hq:tmps.getD q undef=u):
 (results fn tmps).run prog W=.ok (.tuple #[.agg #[v0,v1,v2],u]) W:=by obtain⟨a,c,b,-⟩:=hb.c3;rw[kxt] at hp hq;simp[results,h,hp,hq,go_sem,a,c,b]
theorem Ke(x:Nat)(hx:x<18446744073709551616):bits BinOp.and .u64 ((x:Int)/4294967296) 2147483647=((x/4294967296%2147483648:Nat):Int)/\bits BinOp.and .u64 (x:Int) 4294967295=((x%4294967296:Nat):Int) /\
 (((x:Int)/9223372036854775808)==1)=(x/9223372036854775808==1):=by
 refine⟨?_,uS (k:=32) (m:=4294967295) hx rfl (by omega),?_⟩
 .have a:x/4294967296<18446744073709551616:=by omega
  have h:=uS (k:=31) (m:=2147483647) a rfl (by omega);exact h
 rw[kzl,kqx,kqx];omega
theorem FK(x:Nat)(w:World)(hx:x<18446744073709551616):
 Calls prog 111 #[.int .u64 (x:Int)] w λe w'=>e=.returned (.tuple #[(slB x).val,.int .i64 (yr x)])/\Below w.heap.size w w':=by
 obtain⟨A,y,r⟩:=Ke x hx;obtain⟨o,n,t,z⟩:=gj x;have i:=hid (λh=>yS (x:=x) h);have f:=hid (λh=>xV (x:=x) h);have b:=hid (λW=>vn (dX x).gen (dX x).used (dX x).at_ W o n);have hx0:(0:Int)<=(x:Int):=by omega
 have C:((x/4294967296%2147483648:Nat):Int)=(dX x).gen:=rfl;have G:((x%4294967296:Nat):Int)=(dX x).at_:=rfl;have D:(x/9223372036854775808==1)=(dX x).used:=rfl;rw[C] at A;rw[G] at y;rw[D] at r;clear C G D hx;obtain⟨s,I⟩:=xq (dX x);rw[I] at A y r o n t z b i f;obtain⟨g,u,a⟩:=s;dsimp only at A y r o n t z b;have w1:IntKind.i64.wrap g=g:=kqt _ (by omega);have w2:IntKind.i64.wrap a=a:=kqt _ (by omega);have B:=Bx.new w 52 #[.int .i64 0,.bool false,.int .i64 0];have F:=hid (B.alloc (.cells #[.int .i64 g,.bool u,.int .i64 a] 52));have p:=Bx.new (w.alloc (.cells #[.int .i64 0,.bool false,.int .i64 0] 52)) 52 #[.int .i64 g,.bool u,.int .i64 a];rw[kqm] at p;have H:=hid p;have E:=hid (((kqk w.heap.size w).alloc (kqa _) (.cells #[.int .i64 0,.bool false,.int .i64 0] 52)).alloc (aS (kqa _)) (.cells #[.int .i64 g,.bool u,.int .i64 a] 52));obtain⟨q,J⟩:∃q,mX ⟨g,u,a⟩=q:=⟨_,rfl⟩;rw[J] at b i f;clear B p I J o n t z;go_enter func111,ntmps111;go_wp2_with fail;refine (b.out _).mono ?_;rintro e w3 ⟨rfl,c⟩;have d:=F.out.up c F.out.lt;have j:=H.out.up c H.out.lt;have m:=hid (E.out.trans (c.mono E.out.size));obtain⟨p0,p1,p2,f0,f1,f2,hg0⟩:=d.c3;obtain⟨n0,n1,n2,-⟩:=j.c3;have k:=hid d;clear d j c;cases q
 .have l:=hid (f.out rfl);go_wp2_with fail;exact kqq (v:=.tuple #[.agg #[.int .i64 0,.bool false,.int .i64 0],.int .i64 50]) (kv results111 _ (((k.out.set_ 0 _).set_ 1 _).set_ 2 _) rfl rfl) rfl ⟨by rw[l.out.1,l.out.2];rfl,((m.out.setCell (kqa _) _).setCell (kqa _) _).setCell (kqa _) _⟩
 have l:=hid (i.out rfl);go_wp2_with fail;exact kqq (v:=.tuple #[.agg #[.int .i64 g,.bool u,.int .i64 a],.int .i64 0]) (kv results111 _ (((k.out.set_ 0 _).set_ 1 _).set_ 2 _) rfl rfl) rfl ⟨by rw[l.out.1,l.out.2];rfl,((m.out.setCell (kqa _) _).setCell (kqa _) _).setCell (kqa _) _⟩
def noSl:Sl:=⟨0,false,0⟩
def lN (ws:List Nat) (k:Nat):List Sl:=(List.range 16).map λi=>if i<k then slAt ws i else noSl
def iW (l:List Sl):Array Value:=(l.flatMap Sl.cells).toArray
theorem kb(ws:List Nat)(k:Nat):(lN ws k).length=16:=by simp[lN]
theorem om(ws:List Nat)(k j:Nat)(hj:j<16):(lN ws k)[j]? = some (if j<k then slAt ws j else noSl):=by simp[lN,hj]
theorem xG(ws:List Nat)(k:Nat)(hk:k<16):lN ws (k+1)=(lN ws k).set k (slAt ws k):=by
 apply kx8;intro j;rw[kxi];by_cases a:j<16
 .rw[om _ _ _ a,om _ _ _ a];by_cases e:k=j
  .subst e;rw[if_pos (show k<k+1 by omega),if_pos rfl,if_pos (by rw[kb];exact hk)]
  rw[if_neg e];by_cases h:j<k
  .rw[if_pos h,if_pos (by omega)]
  rw[if_neg h,if_neg (by omega)]
 rw[kzc (by rw[kb];omega),if_neg (by omega),kzc (by rw[kb];omega)]
theorem xI(ws:List Nat):lN ws 0=List.replicate 16 noSl:=by
 apply kx8;intro j;by_cases a:j<16
 .rw[om _ _ _ a,if_neg (by omega),kke,if_pos a]
 rw[kzc (by rw[kb];omega),kzc (by simp;omega)]
theorem Bl(ws:List Nat):lN ws 16=slL ws:=by unfold lN slL;apply kz5;intro i a;rw[if_pos (kzi.1 a)]
theorem sl_set(l:List Sl)(k:Nat)(x:Sl):(l.set k x).flatMap Sl.cells=(((l.flatMap Sl.cells).set (k*3) (.int .i64 x.gen)).set (k*3+1) (.bool x.used)).set (k*3+2) (.int .i64 x.at_):=by
 have d:=eO Sl.cells 3 Sl.len l k 0 (by omega) ⟨x.gen,(l[k]?.getD default).used,(l[k]?.getD default).at_⟩ (.int .i64 x.gen) (λy a=>by rw[a];rfl);have c:=eO Sl.cells 3 Sl.len (l.set k ⟨x.gen,(l[k]?.getD default).used,(l[k]?.getD default).at_⟩) k 1 (by omega) ⟨x.gen,x.used,(l[k]?.getD default).at_⟩ (.bool x.used) (λy a=>by
  rw[kxi] at a;simp only[if_true] at a;split at a
  .cases a;rfl
  cases a)
 have b:=eO Sl.cells 3 Sl.len (l.set k ⟨x.gen,x.used,(l[k]?.getD default).at_⟩) k 2 (by omega) x (.int .i64 x.at_) (λy a=>by
  rw[kxi] at a;simp only[if_true] at a;split at a
  .cases a;rfl
  cases a)
 rw[List.set_set] at c b;rw[b,c,d];rfl
theorem Dk(l:List Sl)(k:Nat)(x:Sl):(((iW l).setIfInBounds (k*3) (.int .i64 x.gen)).setIfInBounds (k*3+1) (.bool x.used)).setIfInBounds (k*3+2) (.int .i64 x.at_)=iW (l.set k x):=by unfold iW;rw[sl_set];simp
theorem iL(l:List Sl):(iW l).size=l.length*3:=by unfold iW;rw[kjx,cm Sl.cells 3 Sl.len]
theorem Sl.one(x:Sl):∀u∈x.cells,u.oneCell'=true:=by intro u a;simp only[Sl.cells,kqw,kzk,or_false] at a;rcases a with rfl|rfl|rfl<;>rfl
theorem lP(l:List Sl):(iW l).all (·.oneCell')=true:=by unfold iW;rw[List.all_toArray,kzv];exact dy Sl.one l
def cg:Array Value:=iW (List.replicate 16 noSl)
theorem gF:cg.size=48:=by unfold cg;rw[iL,kjp]
theorem l8:cg.all (·.oneCell')=true:=lP _
theorem oO(w:World):(zeroValue 118).run prog w=.ok (.agg cg) w:=by kernel_rfl
theorem I8(w:World):(Instr.build 118 #[]).run prog w=.ok (.agg cg) w:=by kernel_rfl
theorem kS:(prog.info? 118).map (·.size)=some 48:=by kernel_rfl
theorem mB(l:List Sl)(h:j<l.length*3):∃u,(iW l)[j]? = some u:=by have:=iL l;exact⟨_,kjl (by omega)⟩
theorem kP(h:fn.results=#[.cell p 118,.tmp q])(tmps:Array Value){cs:Array Value}(hb:Bx W g t cs)(hs:cs.size=48)(hp:tmps.getD p undef=.pointer (some ⟨g,0,none⟩))(hq:tmps.getD q undef=u):
 (results fn tmps).run prog W=.ok (.tuple #[.agg cs,u]) W:=by
 have b:tmps[p]?.getD undef=.pointer (some ⟨g,0,none⟩):=by simpa using hp
 have a:tmps[q]?.getD undef=u:=by simpa using hq
 have d:(prog.info? 118).map (·.size)=some cs.size:=by rw[hs];exact kS
 have c:=run_loadVar_row W g t 118 cs (0,0) _ hb underlying118 rfl d;simp[results,h,b,a,asAddr,c]
def opV (ws:List Nat):Value:=.agg (if dV ws=0 then iW (slL ws) else cg)
theorem IF(h:dV ws=0):opV ws=.agg (iW (slL ws)):=by simp[opV,h]
theorem Eo(h:dV ws≠0):opV ws=.agg cg:=by simp[opV,h]
theorem BH(A:Option Addr)(ws:List Nat)(c n:Nat)(w:World)(hn:ws.length=n)(hm:n<=9223372036854775807)(hr:RdW w w.heap.size A ws)(ho:∀x∈ws,x<18446744073709551616):
 Calls prog 64 #[.slice A n c] w λe w'=>e=.returned (.tuple #[opV ws,.int .i64 (dV ws)])/\Below w.heap.size w w':=by
 subst hn;have HR:=hid hr;have Kx:Hid (∀k,wd ws k<18446744073709551616):=hid (fT ho);have hzv:=oO;have hbv:=I8;have z:=gF;have Y:=hid l8;have m:=kS;have b0:=Bx.new w 118 cg;have B:=(kqk w.heap.size w).alloc (kqa _) (.cells cg 118);clear hr ho;cases R:ak (ws.length:Int)
 .have HI:=hid (bL R);have N:=zc R;have C:=hid (And.intro N (Eo (by rw[N];omega)));have F:=hid b0;have P:=hid B;rw[<-z] at m;have u:=m;clear R N b0 B m;go_enter func64,ntmps64;go_wp2_with fail;refine (aB A ws.length c _ hm).mono ?_;rintro e w1 ⟨rfl,rfl⟩;rw[HI.out];go_wp2_with (first
   | ((with_reducible refine ar 118 (.tmp 2) _ ?_);refine ao rfl _ _ _ rfl w.heap.size 118 cg cg (by rfl) (by rfl) F.out rfl u Y.out ?_;intro w3 Z Eq;have g:=hid Z;have Ky:=hid Eq;clear Z Eq))
  exact kqq (v:=.tuple #[.agg cg,.int .i64 8]) (kP results64 _ g.out z rfl rfl) rfl ⟨by rw[C.out.1,C.out.2],Ky.out.below P.out (kqa _)⟩
 have HI:=hid (aV R);obtain⟨hb1,hb2,-⟩:=ir ws R;have HS:=hid R;obtain⟨b,off,rfl,hb,-⟩:=RdW.at_ HR.out (show 0<ws.length by omega);have Kz:Hid (∀k (h:k<ws.length) (W:World),Below w.heap.size w W->W.cell? ⟨b,off+k,none⟩=some (.int .u64 (wd ws k:Int))):=hid λk h W E=>by
  obtain⟨b',off',e',-,h0⟩:=RdW.at_ (Rd.below HR.out E) h;cases e';rw[<-cF] at h0;exact h0
 have F:=hid b0;have P:=hid B;rw[<-z] at m;have u:=m;clear R b0 B m;go_enter func64,ntmps64;go_wp2_with fail;refine (aB _ ws.length c _ hm).mono ?_;rintro e w1 ⟨rfl,rfl⟩;rw[HI.out];go_wp2_with fail;go_loopw [15] (λi wr=>∃k:Nat,k<=16/\i=.int .i64 k/\Hid (pt ws k)/\Bx wr w.heap.size 118 cg/\Bx wr (w.heap.size+1) 118 (iW (lN ws k))/\Below w.heap.size w wr) (λi _=>16-(intOf i).toNat)
 case atStart =>
  have x1:=Bx.new (w.alloc (.cells cg 118)) 118 cg;rw[kqm] at x1;exact⟨0,kqz _,rfl,pS ws,F.out.alloc _,by rw[xI];exact x1,P.out.alloc (by simp) _⟩
 obtain⟨k,hk,rfl,U,q0,D,E⟩:=hrel;have hz:=E.size;have Q0:=hid q0;have Q1:=hid D;by_cases S:k<16
 .have h0:=Kz.out (112+k) (by omega) _ E;have a:=hid (λW=>FK (wd ws (112+k)) W (Kx.out _));have L:=hid (λh=>pQ U.out h);have O:=hid (λh=>lY HS.out (sd S h));have o:dX (wd ws (112+k))=slAt ws k:=rfl;have La:=hid (xG ws k S);have hsz:=kb ws k;obtain⟨u0,I⟩:=mB (lN ws k) (j:=k*3) (by omega);obtain⟨u1,J⟩:=mB (lN ws k) (j:=k*3+1) (by omega);obtain⟨u2,H⟩:=mB (lN ws k) (j:=k*3+2) (by omega);have i1:(0:Int)<=112+(k:Int):=by omega
  have i2:(112:Int)+(k:Int)<(ws.length:Int):=by omega
  have n1:((112:Int)+(k:Int)).toNat=112+k:=by omega
  have hk1:(k:Int)<16:=by omega
  have hk0:(0:Int)<=(k:Int):=by omega
  obtain⟨x,hx⟩:=xq (wd ws (112+k));rw[hx] at h0 a o;cases d:mX (slAt ws k)
  .have N:=O.out d;have C:=hid (And.intro N (Eo (by rw[N];omega)));rw[<-o] at d;rw[(xV d).1,(xV d).2] at a;unfold Sl.val at a;dsimp only at a;clear hx d N o O L q0 D I J H;go_wp2_with fail;refine (a.out _).mono ?_;rintro e w3 ⟨rfl,f⟩;have q:=hid (Q0.out.up f Q0.out.lt);have g:=hid (E.trans (f.mono hz));clear f;go_wp2_with (first
    | ((with_reducible refine ar 118 (.tmp 2) _ ?_);refine ao rfl _ _ _ rfl w.heap.size 118 cg cg (by rfl) (by rfl) (q.out.alloc _) rfl u Y.out ?_;intro w4 p r;have K:=hid p;have G:=hid r;clear p r))
   exact kqq (v:=.tuple #[.agg cg,.int .i64 50]) (kP results64 _ K.out z rfl rfl) rfl ⟨by rw[C.out.1,C.out.2],G.out.below (g.out.alloc g.out.size _) (kqa _)⟩
  have V:=hid (L.out d);rw[<-o] at d;rw[(yS d).1,(yS d).2,o] at a;have y:=Dk (lN ws k) k (slAt ws k);rw[<-La.out] at y;have t:=hid y;obtain⟨s,X⟩:=xq (slAt ws k);rw[X] at a t;obtain⟨sg,su,sa⟩:=s;unfold Sl.val at a;dsimp only at a t;clear hx d o X y O L q0 D;go_wp2_with fail;refine (a.out _).mono ?_;rintro e w3 ⟨rfl,f⟩;have q:=Q1.out.up f Q1.out.lt;have Q3:=hid q;have Q4:=hid (Q0.out.up f Q0.out.lt);have hg3:=q.lt;have d0:=(q.cell (k*3)).trans I;have d1:=(q.cell (k*3+1)).trans J;have d2:=(q.cell (k*3+2)).trans H;have f0:=q.frozen (k*3);have f1:=q.frozen (k*3+1);have f2:=q.frozen (k*3+2);have g:=hid (E.trans (f.mono hz));clear f q I J H;go_wp2;go_roundw
  case rel =>
   refine⟨k+1,by omega,by go_num,V.out,(((Q4.out.far (by simp) _).far (by simp) _).far (by simp) _).alloc _,?_,(((g.out.setCell (by simp) _).setCell (by simp) _).setCell (by simp) _).alloc (by simpa using g.out.size) _⟩;rw[<-t.out];exact (((Q3.out.set_ (k*3) _).set_ (k*3+1) _).set_ (k*3+2) _).alloc _
  case measure=>simp[intOf];omega
 obtain rfl:k=16:=by omega
 have Q:=jL HS.out ((cG ws).2 U.out);have C:=hid (And.intro Q.1 (IF Q.1));rw[Bl] at D;have l:(iW (slL ws)).size=48:=by rw[iL,fA]
 obtain⟨cs,M⟩:=xq (iW (slL ws));have h1:cs.all (·.oneCell')=true:=by rw[<-M];exact lP _
 have H1:=hid h1;rw[M] at D C l;have Q5:=hid D;have T:(prog.info? 118).map (·.size)=some cs.size:=by rw[l];exact kS
 have Kw:cs.size=cg.size:=by rw[l,z]
 clear q0 D Q M h1;go_wp2_with (first
  | ((with_reducible refine aQ 118 (.tmp 5) ?_);refine kxj rfl _ _ rfl (w.heap.size+1) (by rfl) 118 cs (0,0) _ Q5.out underlying118 (by rfl) T ?_)
  | ((with_reducible refine ar 118 (.tmp 2) _ ?_);refine ao rfl _ _ _ rfl w.heap.size 118 cg cs (by rfl) (by rfl) Q0.out Kw T H1.out ?_;intro w4 p r;have K:=hid p;have G:=hid r;clear p r))
 exact kqq (v:=.tuple #[.agg cs,.int .i64 0]) (kP results64 _ K.out l rfl rfl) rfl ⟨by rw[C.out.1,C.out.2],G.out.below E (kqa _)⟩
theorem Rd.of_box{cs:Array Value}(h:Bx w g t cs)(hg:g<B):Rd w B (some ⟨g,0,none⟩) cs.toList:=λ_ =>
 ⟨g,0,rfl,hg,λj hj=>by
  rw[kxd,h.cell j]
  simp⟩
def RdS (w:World) (B:Nat) (A:Option Addr) (l:List Sl):Prop:=Rd w B A (l.flatMap Sl.cells)
theorem RdS.at_{l:List Sl}(h:RdS w B A l)(hk:k<l.length):
 ∃b a,A=some ⟨b,a,none⟩/\b<B/\w.cell? ⟨b,a+k*3,none⟩=some (.int .i64 l[k].gen)/\w.cell? ⟨b,a+k*3+1,none⟩=some (.bool l[k].used)/\w.cell? ⟨b,a+k*3+2,none⟩=some (.int .i64 l[k].at_):=by obtain⟨b,a,e,d,c⟩:=Rd.at_flat Sl.len h (by omega) hk;exact⟨b,a,e,d,c 0 (by omega),c 1 (by omega),c 2 (by omega)⟩
def Hz (ws:List Nat) (e:Ending) (w':World):Prop:=∃A c,e=.returned (.tuple #[.slice A (fu ws).length c,.int .i64 (dV ws)])/\RdS w' w'.heap.size A (fu ws)/\(fu ws).length<=c
theorem Ha(A:Option Addr)(ws:List Nat)(c n:Nat)(w:World)(hn:ws.length=n)(hm:n<=9223372036854775807)(t:RdW w w.heap.size A ws)(ho:∀x∈ws,x<18446744073709551616):
 Calls prog 25 #[.slice A n c] w λe w'=>Hz ws e w'/\Below w.heap.size w w':=by
 have m:=hid (BH A ws c n w hn hm t ho);clear t ho hn hm;have p:=gF;by_cases h:dV ws=0
 .have b:fu ws=slL ws:=by simp[fu,h]
  have i:=hid (And.intro h b);have D:=fA ws;rw[h,IF h] at m;have d:(iW (slL ws)).size=48:=by rw[iL,fA]
  obtain⟨l,y⟩:=xq (slL ws);rw[y] at d m D i;have B:Hid (iW l=(l.flatMap Sl.cells).toArray):=hid rfl;have I:=hid (lP l);have H:=hid D;obtain⟨cs,C⟩:=xq (iW l);rw[C] at m d B I;have j:(prog.info? 118).map (·.size)=some cs.size:=by rw[d];exact kS
  clear h b y C D p;go_enter func25,ntmps25;go_wp2_with fail;refine m.out.mono ?_;rintro e s ⟨rfl,a⟩;have F:=oO;have E:cs.size=cg.size:=by rw[d,gF]
  have z:=Bx.new s 118 cg;have G:=hid z;have k:=hid (a.alloc a.size (.cells cg 118));have o:=a.size;clear z a;go_wp2_with (first
   | ((with_reducible refine ar 118 (.tmp 4) _ ?_);refine ao rfl _ _ _ rfl s.heap.size 118 cg cs (by rfl) (by rfl) G.out E j I.out ?_;intro J g f;have u:=hid g;have q:=hid (f.below k.out o);clear g f))
  go_ret2;refine⟨⟨some ⟨s.heap.size,0,none⟩,16,by rw[i.out.1,i.out.2,H.out];rfl,?_,by rw[i.out.2,H.out];omega⟩,q.out⟩;rw[i.out.2];have:=u.out;rw[B.out] at this;exact Rd.of_box this this.lt
 have b:fu ws=[]:=by simp[fu,h]
 have i:=hid b;rw[Eo h] at m;obtain⟨r,t⟩:=xq (dV ws);have K:=hid t;rw[t] at m h;have hrn:(r != 0)=true:=by rw[kqv];exact h
 have o:=hid l8;have j:(prog.info? 118).map (·.size)=some cg.size:=by rw[p];exact kS
 clear h b t p;go_enter func25,ntmps25;go_wp2_with fail;refine m.out.mono ?_;rintro e s ⟨rfl,a⟩;have F:=oO;have z:=Bx.new s 118 cg;have G:=hid z;have k:=hid (a.alloc a.size (.cells cg 118));have v:=a.size;clear z a;go_wp2_with (first
  | ((with_reducible refine ar 118 (.tmp 4) _ ?_);refine ao rfl _ _ _ rfl s.heap.size 118 cg cg (by rfl) (by rfl) G.out rfl j o.out ?_;intro J g f;have u:=hid g;have q:=hid (f.below k.out v);clear g f))
 go_ret2;exact⟨⟨none,0,by rw[K.out,i.out];rfl,by rw[i.out];exact Rd.nil_,by rw[i.out];exact kqa _⟩,q.out⟩
def mO (H:Nat) (a b:Nat) (e:Ending) (w':World):Prop:=∃A c,e=.returned (.tuple #[.slice A (bq a b).length c,.int .i64 (eX a b)])/\w'.ownsRow H 5 1 (.slice A (bq a b).length c) (bq a b).length ((bq a b).flatMap bv)
theorem lH(h:cD a b=false):mO H a b (.returned (.tuple #[.slice none 0 0,.int .i64 50])) w':=by
 have c:bq a b=[]:=by simp[bq,h]
 have d:eX a b=50:=by simp[eX,h]
 exact⟨none,0,by rw[c,d];rfl,by rw[c];exact kq6 _ _ _ _⟩
theorem xZ{v:Value}(h0:cD a b=true)(h:w'.ownsRow H 5 1 v (dJ a).length ((dJ a).flatMap bv)):mO H a b (.returned (.tuple #[v,.int .i64 0])) w':=by
 have d:bq a b=dJ a:=by simp[bq,h0]
 have e:eX a b=0:=by simp[eX,h0]
 obtain⟨A,c,rfl⟩:=aE h;exact⟨A,c,by rw[d,e],by rw[d];exact h⟩
theorem vN(a b:Nat)(w:World)(ha:a<18446744073709551616)(hb:b<18446744073709551616):
 Calls prog 117 #[.int .u64 (a:Int),.int .u64 (b:Int)] w λe w'=>mO w.heap.size a b e w'/\Below w.heap.size w w':=by
 have F:=hid (kF a b);have ha0:(0:Int)<=(a:Int):=by omega
 have e1:=(uX a ha).1;have l:=hid (fk a);have C:=hid (λk h=>rk a k h);have V:=hid (λk=>wj a k ha);have hm:a%256<256:=kz0 _ (by omega);obtain⟨m,z⟩:=xq (a%256);rw[z] at e1 l C F hm;by_cases h8:8<m
 .have Y:=hid (show cD a b=false by rw[F.out,show decide (m<=8)=false by rw[kqh];omega];rfl);clear z ha hb;go_enter func117,ntmps117;go_wp2;go_ret2;exact⟨lH Y.out,kqk _ _⟩
 have G:m<=8:=by omega
 rw[show decide (m<=8)=true by rw[kqo];exact G] at F;have hx0:(0:Int)<=(m:Int):=by omega
 have HA:=hid ha;have Y:=hid hb;have d8:decide ((8:Int)<(m:Int))=false:=by rw[kqh];omega
 clear z ha hb h8 hm;obtain⟨i0,X,B,I,J⟩:=kzr ld;have HI:=hid X;have P:=hid B;have U:=hid I;have R:=hid J;clear X B I J;go_enter func117,ntmps117;go_wp2_with fail;go_loopw [7,16] (λv i wr=>∃k:Nat,k<=m/\i=.int .u64 k/\wr.ownsRow w.heap.size 5 1 v k (((dJ a).take k).flatMap bv)/\Below w.heap.size w wr) (λ_ i _=>m-(intOf i).toNat)
 case atStart=>exact⟨0,kqz _,rfl,kq6 _ _ _ _,kqk _ _⟩
 obtain⟨k,hk,rfl,c,y⟩:=hrel;have L:=y.size;by_cases K:k<m
 .have O:=V.out k;have M:=C.out k K;obtain⟨x,Q⟩:=xq (a/4 ^ (k+4)%4);have hx3:x<4:=by rw[<-Q];exact kz0 _ (by omega)
  rw[Q] at O M;have D:=hid (show ((dJ a).take (k+1)).flatMap bv=((dJ a).take k).flatMap bv++[.int .u8 (x:Int)] by
   have W:k<(dJ a).length:=by rw[l.out];exact K
   rw[kqp W,cB];rw[kql W] at M;rw[Option.some.inj M];rfl)
  have hxi:(x:Int)<4:=by omega
  have hx00:(0:Int)<=(x:Int):=by omega
  have hki:(k:Int)<(m:Int):=by omega
  clear Q M;go_wp2_with (at_builtin;refine kzh _ rfl _ _ 113 rfl w.heap.size 5 i0 _ 1 1 underlying113 HI.out P.out U.out R.out rfl (by decide) _ _ _ rfl (c.alloc _) ⟨_,0,none⟩ 1 1 [.int .u8 (x:Int)] rfl rfl (cI _ _ _) (by simp[Value.oneCell']) (by unfold maxLen;omega) (by omega) (aS y.size) ?_;intro v1 N j T _;have f:=aF y y.size c T);go_roundw
  case rel=>exact⟨k+1,by omega,by go_num,by rw[D.out];exact j,f⟩
  case measure=>simp[intOf];omega
 obtain rfl:k=m:=by omega
 rw[kq8 (by rw[l.out];exact kqa _)] at c;obtain⟨A1,c1,rfl⟩:=aE c;have A:=hid (v6 A1 (dJ a) c1 k wr l.out (by omega) (Rd.of_own c));have g:(dJ a).length<=8:=by rw[l.out];exact G
 cases n:eD (dJ a)
 .have s:=hid (ma g n);have E:=hid (show cD a b=false by rw[F.out,n];rfl);have S:=hid (show kwV (dJ a)=.agg #[.int .u64 0,.int .u64 0] by simp[kwV,s.out,Bn]);rw[s.out,S.out] at A;clear n g c;go_wp2_with fail;refine A.out.mono ?_;rintro e N ⟨rfl,f⟩;have d:=y.trans (f.mono L);go_wp2;go_ret2;exact⟨lH E.out,d.alloc d.size _⟩
 have s:=hid (jX g n);have S:=hid (show kwV (dJ a)=.agg #[.int .u64 (iG (dJ a):Nat),.int .u64 (iz (iG (dJ a)):Nat)] by simp[kwV,s.out,Bn]);have t:=hid (show cD a b=(iG (dJ a)==a&&iz (iG (dJ a))==b) by
  rw[F.out,n];by_cases h:iG (dJ a)=a
  .rw[h];simp
  rw[show (iG (dJ a)==a)=false by rw[kqi];exact h];simp only[kx2,kj9])
 rw[s.out,S.out] at A;obtain⟨p,Z⟩:=xq (iG (dJ a));obtain⟨q,hq⟩:=xq (iz p);rw[Z,hq] at A t;clear n g Z hq;by_cases o:p=a
 .by_cases u:q=b
  .have HY:=hid (show cD a b=true by rw[t.out,o,u];simp);have r:=pZ p q a b;rw[show ((p:Int)==(a:Int))=true by rw[kqx];omega,show ((q:Int)==(b:Int))=true by rw[kqx];omega,Bool.and_self] at r;clear o u;go_wp2_with fail;refine A.out.mono ?_;rintro e N ⟨rfl,f⟩;have d:=y.trans (f.mono L);have j:=aa c f (kqa _);go_wp2;go_ret2;refine⟨xZ HY.out (H:=w.heap.size) ?_,d.alloc d.size _⟩;rw[l.out];exact j.alloc _
  have E:=hid (show cD a b=false by rw[t.out,show (q==b)=false by rw[kqi];exact u,kj9]);have r:=pZ p q a b;rw[show ((q:Int)==(b:Int))=false by rw[kqi];omega,kj9] at r;clear o u c;go_wp2_with fail;refine A.out.mono ?_;rintro e N ⟨rfl,f⟩;have d:=y.trans (f.mono L);go_wp2;go_ret2;exact⟨lH E.out,d.alloc d.size _⟩
 have E:=hid (show cD a b=false by rw[t.out,show (p==a)=false by rw[kqi];exact o,kx2]);have r:=pZ p q a b;rw[show ((p:Int)==(a:Int))=false by rw[kqi];omega,kx2] at r;clear o c;go_wp2_with fail;refine A.out.mono ?_;rintro e N ⟨rfl,f⟩;have d:=y.trans (f.mono L);go_wp2;go_ret2;exact⟨lH E.out,d.alloc d.size _⟩
def GW (H:Nat) (a b:Nat) (e:Ending) (w':World):Prop:=∃A c,e=.returned (.tuple #[.slice A (bq a b).length c,.bool (cD a b)])/\w'.ownsRow H 5 1 (.slice A (bq a b).length c) (bq a b).length ((bq a b).flatMap bv)
theorem xz(A:Option Addr)(ws:List Nat)(c n t:Nat)(w:World)(hn:ws.length=n)(hm:n<=1000000)(h2:256<=n)(ht:t<8)(hr:RdW w w.heap.size A ws)(ho:∀x∈ws,x<18446744073709551616):
 Calls prog 110 #[.slice A n c,.int .i64 (t:Int)] w λe w'=>GW w.heap.size (wd ws (96+2*t)) (wd ws (96+2*t+1)) e w'/\Below w.heap.size w w':=by
 subst hn;have o:=fT ho (96+2*t);have r:=fT ho (96+2*t+1);have i:=hid (λW=>vN (wd ws (96+2*t)) (wd ws (96+2*t+1)) W o r);have l:=hid (ng (wd ws (96+2*t)) (wd ws (96+2*t+1)));obtain⟨b,a,rfl,q,m⟩:=RdW.at_ hr (show 96+2*t<ws.length by omega);obtain⟨b',off',u,-,j⟩:=RdW.at_ hr (show 96+2*t+1<ws.length by omega);cases u;rw[<-cF] at m j;obtain⟨x,h⟩:=xq (wd ws (96+2*t));obtain⟨y,g⟩:=xq (wd ws (96+2*t+1));rw[h] at m i l |-;rw[g] at j i l |-;have t0:(0:Int)<=(t:Int):=by omega
 have t8:(t:Int)<8:=by omega
 have w1:IntKind.i64.wrap (2*(t:Int))=2*(t:Int):=kqt _ (by omega);have w2:IntKind.i64.wrap (96+2*(t:Int))=96+2*(t:Int):=kqt _ (by omega);have w3:IntKind.i64.wrap (96+2*(t:Int)+1)=96+2*(t:Int)+1:=kqt _ (by omega);have i1:(0:Int)<=96+2*(t:Int):=by omega
 have i2:(96:Int)+2*(t:Int)<(ws.length:Int):=by omega
 have i3:(0:Int)<=96+2*(t:Int)+1:=by omega
 have i4:(96:Int)+2*(t:Int)+1<(ws.length:Int):=by omega
 have n1:((96:Int)+2*(t:Int)).toNat=96+2*t:=by omega
 have n2:((96:Int)+2*(t:Int)+1).toNat=96+2*t+1:=by omega
 clear hr o r h g ho ht;go_enter func110,ntmps110;go_wp2_with fail
 go_region_held3 (λX:World=>X.cell? ⟨b,a+(96+2*t),none⟩=some (.int .u64 (x:Int))/\X.cell? ⟨b,a+(96+2*t+1),none⟩=some (.int .u64 (y:Int))) (go_keep)
  (first | (go_at_call 117;refine (i.out _).mono ?_;rintro e w5 ⟨⟨s,v,rfl,f⟩,d⟩;have m0:=(d.cell (p:=⟨b,a+(96+2*t),none⟩) q).trans m;have m1:=(d.cell (p:=⟨b,a+(96+2*t+1),none⟩) q).trans j;have k:=hid f;clear f))
 go_wp2;go_ret2;exact⟨⟨s,v,by rw[l.out];rfl,k.out⟩,(kqk _ _).drew.trans d⟩
def gp (x:Nat):List Value:=[.int .i64 (x:Int)]
def bJ (x:Bool):List Value:=[.bool x]
theorem sR(x:Nat):(gp x).length=1:=rfl
theorem gm(x:Bool):(bJ x).length=1:=rfl
theorem zL(n:Nat):(List.replicate n (0:Int)).flatMap da=List.replicate n (.int .i64 0):=by
 induction n with
 | zero=>rfl
 | succ n ih=>rw[kj1,kzy,ih,kj1];rfl
theorem zk(n:Nat):(List.replicate n false).flatMap bJ=List.replicate n (.bool false):=by
 induction n with
 | zero=>rfl
 | succ n ih=>rw[kj1,kzy,ih,kj1];rfl
theorem EH(l:List Int)(k:Nat)(x:Int):(l.set k x).flatMap da=(l.flatMap da).set k (.int .i64 x):=by
 have:=eO da 1 kg l k 0 (by omega) x (.int .i64 x) (λy _=>rfl)
 simpa using this
theorem Am(l:List Bool)(k:Nat)(x:Bool):(l.set k x).flatMap bJ=(l.flatMap bJ).set k (.bool x):=by
 have:=eO bJ 1 gm l k 0 (by omega) x (.bool x) (λy _=>rfl)
 simpa using this
theorem ni(l:List Int)(k:Nat)(h:k<l.length):(l.flatMap da)[k]? = some (.int .i64 (l[k]?.getD 0)):=by
 have:=ja da 1 kg l k 0 h (by omega)
 simpa [da,h] using this
theorem BG(l:List Bool)(k:Nat)(h:k<l.length):(l.flatMap bJ)[k]? = some (.bool (l[k]?.getD false)):=by
 have:=ja bJ 1 gm l k 0 h (by omega)
 simpa [bJ,h] using this
theorem FM:(prog.info? 3).map (λi=>(i.zero,i.size,i.bytes))=some (some (.int .i64 0),1,8):=by kernel_rfl
theorem AG:(prog.info? 4).map (λi=>(i.zero,i.size,i.bytes))=some (some (.bool false),1,1):=by kernel_rfl
open Classical in
theorem DQ(h:aj ws=0)(h1:slsOk ws=true)(h2:qh ws):aC ws=0:=by simp[aC,h,h1,h2]
open Classical in
theorem rc_sl(h:aj ws=0)(h1:slsOk ws=false):aC ws=50:=by simp[aC,h,h1]
open Classical in
theorem GX(h:aj ws=0)(h2:¬ qh ws):aC ws=50:=by simp[aC,h,h2]
theorem ly(l:List Nat)(x:Nat):(l++[x]).flatMap gp=l.flatMap gp++[.int .i64 (x:Int)]:=by simp[gp]
theorem Jz{ys:List Value}(h:w.ownsRow H e 1 (.slice (some ⟨g,0,none⟩) (n+1) c) (n+1) (xs++ys))(hx:xs.length=n):w.ownsRow H e 1 (.slice (some ⟨g,0,none⟩) n c) n xs:=by
 refine⟨by rw[hx,kxq],.inr ?_⟩;rcases h.2 with⟨a,_⟩|⟨g',cap,b,a,i,j,h4,k,l,f⟩
 .cases a
 simp only[Value.slice.injEq,Option.some.injEq,Addr.mk.injEq,and_true,true_and] at a;obtain⟨rfl,rfl⟩:=a;refine⟨g,c,b,rfl,i,j,by omega,k,l,?_⟩;have d:=congrArg (List.take n) f;rw[kkg,kxq,kxg (by omega),List.take_left' hx] at d;rw[kxq];exact d
theorem cK(h:w.ownsRow H e sz (.slice A n c) n xs):n<=c:=by obtain⟨A',c',b,a,-⟩:=kr h;cases b;exact a
theorem JI(h:w.ownsRow H e sz (.slice (some ⟨g,0,none⟩) n c) n xs){p:Addr}(hp:g≠p.block)(u:Value):(w.setCell p u).ownsRow H e sz (.slice (some ⟨g,0,none⟩) n c) n xs:=by
 refine⟨h.1,?_⟩;rcases h.2 with⟨a,_⟩|⟨k,d,b,a,i,f,j⟩
 .cases a
 refine .inr ⟨k,d,b,a,i,?_,j⟩;simp only[Value.slice.injEq,Option.some.injEq,Addr.mk.injEq,and_true,true_and] at a;obtain⟨rfl,rfl⟩:=a;exact (kkz w p u g hp).trans f
def RcRes (ws:List Nat) (B:Nat) (e:Ending) (w':World):Prop:=
 (aC ws=0/\∃g c,e=.returned (.tuple #[.slice (some ⟨g,0,none⟩) ws.length c,.int .i64 0])/\w'.ownsRow B 4 1 (.slice (some ⟨g,0,none⟩) ws.length c) ws.length ((seenL ws).flatMap bJ)) \/
 (aC ws=50/\e=.returned (.tuple #[.slice none 0 0,.int .i64 50]))
theorem Es(A L:Option Addr)(ws:List Nat)(c cl n:Nat)(l:List Bk)(w:World)(hn:ws.length=n)(hm:n<=9223372036854775807)(h0:aj ws=0)(hl:ah ws=l)(hr:RdW w w.heap.size A ws)(hrl:RdB w w.heap.size L l)(ho:∀x∈ws,x<18446744073709551616):
 Calls prog 63 #[.slice A n c,.slice L l.length cl] w λe w'=>RcRes ws w.heap.size e w'/\Below w.heap.size w w':=by
 subst hn;have HR:=hid hr;have HL:=hid hrl;have HO:=hid ho;obtain⟨hs,-⟩:=aA h0;have Qp:=ir ws hs;obtain⟨St,hb2,-⟩:=Qp;have Sf:Hid (∀k,wd ws k<18446744073709551616):=hid (fT ho);have Lo:=hid (Ha A ws c ws.length w rfl hm hr ho);unfold Hz at Lo;have Ma:=hid h0;clear hr hrl ho;cases Le:slsOk ws
 .have he:=lY hs Le;have hq:fu ws=[]:=by simp[fu,he]
  rw[he,hq] at Lo;have HV:=hid (rc_sl h0 Le);clear hs Le he hq h0;go_enter func63,ntmps63;go_wp2_with fail;refine Lo.out.mono ?_;rintro e w1 ⟨⟨A1,c1,rfl,-,-⟩,U⟩;go_wp2;go_ret2;exact⟨.inr ⟨HV.out,rfl⟩,U⟩
 obtain⟨g1,g2⟩:=jL hs Le;rw[g1,g2,fA] at Lo;have Qo:=hid Le;obtain⟨i0,hi,Nw,Qi,Nj⟩:=kzr FM;obtain⟨i1,hj,Qc,Np,Ng⟩:=kzr AG;have q:=hid (And.intro hi (And.intro Nw (And.intro Qi Nj)));have Lw:=hid (And.intro hj (And.intro Qc (And.intro Np Ng)));have Sm:=gY ws;rw[hl] at Sm;have Qv:=hid hl;have Nr:Hid (∀k (h:k<l.length),l[k].kind=1->∃a t:Nat,l[k].at_=(a:Int)/\l[k].typ=(t:Int)/\a<ws.length/\t<128):=hid (by
  subst hl;intro k h h1;obtain⟨a,e1,e2⟩:=mL h0 h h1;refine⟨a,wd ws a/512%128,by rw[e1];rfl,by rw[e1];rfl,e2.2.2.1,kz0 _ (by omega)⟩)
 clear hl;clear hs Le g1 g2 hi Nw Qi Nj hj Qc Np Ng h0;go_enter func63,ntmps63;go_wp2_with fail;refine Lo.out.mono ?_;rintro e w1 ⟨⟨A1,c1,rfl,Nn,-⟩,U⟩;have Qs:=hid Nn;obtain⟨W2,Mq,E,Li⟩:=run_make_full (P:=prog) w1 w1.heap.size 42 3 i0 (.int .i64 0) 1 underlying42 q.out.1 q.out.2.1 q.out.2.2.1 .i64 .i64 ws.length (by rw[q.out.2.2.2];omega) (by unfold maxLen;omega) (kqa _);have Nx:W2.ownsRow w1.heap.size 3 1 (.slice (some ⟨w1.heap.size,0,none⟩) ws.length ws.length) ws.length ((qR ws.length (l.take 0)).flatMap da):=by show W2.ownsRow _ _ _ _ _ ((List.replicate ws.length (0:Int)).flatMap da);rw[zL,<-toList_madeCells_one];have:=E;rw[kxq] at this;exact this
 have Lc:=(kqk w1.heap.size w1).grown Li (kqa _) (λk hk=>by cases hk);have Sh:=hid Nx;have Nl:=hid U;have HB2:=hid (U.trans (Lc.mono U.size));have Nf:=hid Lc;have Nk:=hid Qs.out;have Ml:=U.size;have hz2w:=Lc.size;clear Nn E Li Nx Lc U;go_wp2_with fail;clear Mq;go_loopw [34] (λi wr=>∃k:Nat,k<=l.length/\i=.int .i64 k/\wr.ownsRow w1.heap.size 3 1 (.slice (some ⟨w1.heap.size,0,none⟩) ws.length ws.length) ws.length ((qR ws.length (l.take k)).flatMap da)/\Below w1.heap.size w1 wr) (λi _=>l.length-(intOf i).toNat)
 case atStart=>exact⟨0,kqz _,rfl,Sh.out,Nf.out⟩
 obtain⟨k,hk,rfl,d,hB⟩:=hrel;have hz:=hB.size;by_cases Mn:k<l.length
 .have Lj:=Nl.out.trans (hB.mono Ml);obtain⟨b,off,rfl,Qx,q0,q1,q2,q3,q4,q5⟩:=RdB.at_ (Rd.below HL.out Lj) Mn;have Kw:=hid (Ae (n:=ws.length) Mn);have Mr:=hid (Nr.out k Mn);have Mp:=qp ws.length (l.take k);obtain⟨x,hx⟩:=xq (l[k]);obtain⟨tl,J⟩:=xq (qR ws.length (l.take k));rw[hx] at q0 q1 q2 q3 q4 q5 Kw Mr;rw[J] at Kw d Mp;obtain⟨xa,xs,xk,xt,xm,xn⟩:=x;dsimp only at q0 q1 q2 q3 q4 q5 Kw Mr;have hlm:(k:Int)<(l.length:Int):=by omega
  clear hx J;by_cases X:xk=1
  .obtain ⟨a,t,ha,ht,Mw,Qd⟩:=Mr.out X;subst ha ht;have Sp:(xk==1)=true:=by rw[kqx];exact X
   have Mc:=hid (Kw.out.trans (if_pos X));simp only[kqj] at Mc;have hw1:IntKind.i64.wrap ((t:Int)+1)=(t:Int)+1:=kqt _ (by omega);have Se:(a:Int)<(ws.length:Int):=by omega
   have Sc:(0:Int)<=(a:Int):=by omega
   have Z:=d.alloc (.cells #[.int .i64 (a:Int),.int .i64 xs,.int .i64 xk,.int .i64 (t:Int),.bool xm,.int .u64 (xn:Int)] 55);have c0:=(d.cellAt a (by omega)).trans (ni tl a (by omega));have f0:=d.frozenAt a;have c0':=(Z.cellAt a (by omega)).trans (ni tl a (by omega));have f0':=Z.frozenAt a;obtain⟨u,hu⟩:=xq (tl[a]?.getD 0);rw[hu] at c0 c0';have hgw:=(d.lt _ rfl).2;have Mm:=hid d;clear Z;clear X hu Kw d;go_wp2;go_roundw
   case rel =>
    refine⟨k+1,by omega,by go_num,?_,(hB.setCell (p:=⟨w1.heap.size,a,none⟩) (kqa _) _).alloc (by rw[kz6];exact hz) _⟩;rw[Mc.out,EH];exact (Mm.out.stored a _).1.alloc _
   case measure=>simp[intOf];omega
  have Sp:(xk==1)=false:=by rw[kqi];exact X
  have Mc:=hid (Kw.out.trans (if_neg X));have Mm:=hid d;clear X Kw d;go_wp2;go_roundw
  case rel=>exact⟨k+1,by omega,by go_num,by rw[Mc.out];exact Mm.out.alloc _,hB.alloc hz _⟩
  case measure=>simp[intOf];omega
 rename World=>wA
 rw[kq8 (by omega)] at d;obtain⟨tl,J⟩:=xq (qR ws.length l);have Mp:=qp ws.length l;rw[J] at d Mp;have Qb:Hid (∀a,tb ws a=tl[a]?.getD 0):=hid λa=>by unfold tb;rw[Qv.out,J]
 have Mf:=hid d;have Lj:=Nl.out.trans (hB.mono Ml);have Ld:=hid Lj;have Eq:=Lj.size;have Si:=hid (Rd.below Nk.out hB);clear J d Lj;obtain⟨W3,Mq,E,Li⟩:=run_make_full (P:=prog) wA wA.heap.size 114 4 i1 (.bool false) 1 underlying114 Lw.out.1 Lw.out.2.1 Lw.out.2.2.1 .i64 .i64 ws.length (by rw[Lw.out.2.2.2];omega) (by unfold maxLen;omega) (kqa _);have Ms:W3.ownsRow wA.heap.size 4 1 (.slice (some ⟨wA.heap.size,0,none⟩) ws.length ws.length) ws.length ((List.replicate ws.length false).flatMap bJ):=by rw[zk,<-toList_madeCells_one];have:=E;rw[kxq] at this;exact this
 have So:=hid Ms;have Qy:=hid ((kqk wA.heap.size wA).grown Li (kqa _) (λk hk=>by cases hk));have Sr:wA.heap.size<W3.heap.size:=by have:=Ms.lt wA.heap.size rfl;exact this.2
 clear E Li Ms;go_wp2_with fail;clear Mq;go_loopw [12,54] (λv i w4=>∃k:Nat,k<=16/\i=.int .i64 k/\w4.ownsRow W3.heap.size 3 1 v (uR ws k).length ((uR ws k).flatMap gp)/\Below W3.heap.size W3 w4) (λ_ i _=>16-(intOf i).toNat)
 case atStart=>exact⟨0,kqz _,rfl,kq6 _ _ _ _,kqk _ _⟩
 obtain⟨k2,hk2,rfl,d,Lq⟩:=hrel;have Mv:=Lq.size;have Lb:=Qy.out.trans (Lq.mono (kjv Sr));by_cases Ns:k2<16
 .obtain ⟨b,off,rfl,Qx,q0,q1,q2⟩:=RdS.at_ (Rd.below Si.out (Lb.mono hz)) (show k2<(slL ws).length by rw[fA];exact Ns);rw[nY] at q0 q1 q2;have I:=hid (BV ws k2);have Ly:=vB ws k2;obtain⟨-,-,S,Lp⟩:=gj (wd ws (112+k2));have D:slAt ws k2=dX (wd ws (112+k2)):=rfl;rw[<-D] at S Lp;obtain⟨s,Qh⟩:=xq (slAt ws k2);rw[Qh] at q0 q1 q2 I S Lp;obtain⟨m,Qa⟩:=xq (uR ws k2);rw[Qa] at d I Ly;obtain⟨sg,su,sa⟩:=s;dsimp only at q0 q1 q2 I S Lp;obtain⟨u,rfl⟩:=kq1 S;rw[kqj] at I;have hk16:(k2:Int)<16:=by omega
  have hk00:(0:Int)<=(k2:Int):=by omega
  clear D Qh Qa Lb S;cases su
  .have Mt:=hid (I.out.trans (by simp:m++(if false=true then [u] else [])=m));clear I;go_wp2;go_roundw
   case rel=>exact⟨k2+1,by omega,by go_num,by rw[Mt.out];exact d.alloc _,Lq.alloc Mv _⟩
   case measure=>simp[intOf];omega
  have Mt:=hid (show uR ws (k2+1)=m++[u] from I.out);clear I;go_wp2_with (at_builtin;refine kzh _ rfl _ _ 42 rfl W3.heap.size 3 i0 _ 1 8 underlying42 q.out.1 q.out.2.1 q.out.2.2.1 q.out.2.2.2 rfl (by decide) _ _ _ rfl ((d.alloc _).alloc _) ⟨_,0,none⟩ 1 1 [.int .i64 (u:Int)] rfl rfl (mn _ _ _ (kqm _ _)) (by simp[Value.oneCell']) (by unfold maxLen;omega) (by omega) (by simp;omega) ?_;intro v1 w2 y V _;have Q:=aF (Lq.alloc Mv (.cells #[.int .i64 sg,.bool true,.int .i64 (u:Int)] 52)) (by simp;omega) (d.alloc _) V);go_roundw
  case rel=>exact⟨k2+1,by omega,by go_num,by rw[Mt.out,kqs,ly];exact y,Q⟩
  case measure=>simp[intOf];omega
 obtain rfl:k2=16:=by omega
 have My:=Wk.start ws;have Ly:=vB ws 16;obtain⟨td0,Mi⟩:=xq (uR ws 16);rw[Mi] at My d Ly;have Ss:=hid My;have Qk:=hid d;have Qg:=hid (aa So.out Lq (kqa _));have Kx:oC (List.replicate ws.length false)=ws.length:=by simp[oC]
 have Sa:=hid Kx;have Sk:=hid Lb;clear Mi My d Kx Lb;go_wp2_with fail;go_loopg [12] 30000 (λg v w5=>∃(o:List Bool) (K:List Nat),g<=30000/\Hid (Wk ws o K)/\Hid (oC o*9+K.length<=g)/\w5.ownsRow wA.heap.size 4 1 (.slice (some ⟨wA.heap.size,0,none⟩) ws.length ws.length) ws.length (o.flatMap bJ)/\w5.ownsRow W3.heap.size 3 1 v K.length (K.flatMap gp)/\W3.heap.size<=w5.heap.size/\Below wA.heap.size wA w5)
 case atStart=>exact⟨List.replicate ws.length false,td0,kqa _,Ss.out,by show _<=_;rw[Sa.out];omega,Qg.out,Qk.out,Mv,Sk.out⟩
 obtain⟨o,K,hg30,G,Lu,B,f,Nz,Q⟩:=hrel;have hz5:=Q.size;rcases List.eq_nil_or_concat K with rfl|⟨C,a,rfl⟩
 .have Md:=G.out.end_;have HV:=hid (DQ Ma.out Qo.out Md.1);have Sn:=hid G.out.seenL;have Lh:=hid B;rw[kxf] at f;obtain⟨A6,c6,rfl⟩:=aE f;have Mb:=hid (Ld.out.trans (Q.mono Eq));clear Md B f Lu G;go_wp2;go_ret2;exact⟨.inl ⟨HV.out,wA.heap.size,ws.length,rfl,by rw[<-Sn.out];exact am Lh.out Eq⟩,Mb.out⟩
 simp only[List.concat_eq_append,kqs,List.length_singleton] at G Lu f;have O:=Lu.out;rw[ly] at f;obtain⟨gT,cT,rfl⟩:∃g c,u12=.slice (some ⟨g,0,none⟩) (C.length+1) c:=by obtain⟨g,c,h1,_⟩:=f.form (by omega);exact⟨g,c,h1⟩
 have hcT:=cK f;have Kx:=cm gp 1 sR C;rw[kxq] at Kx;have ct:=(f.cellAt C.length (by omega)).trans (by rw[kxl (by omega),Kx,kvr];rfl:_=some (.int .i64 (a:Int)));have Mg:=Jz f Kx;have hgT:=f.lt gT rfl;have hml:C.length<=30000:=by omega
 have hwl:IntKind.i64.wrap ((C.length:Int)+1-1)=(C.length:Int):=by rw[kqt _ (by omega)];omega
 have hd0:decide ((0:Int)<(C.length:Int)+1)=true:=by rw[kqo];omega
 have t0:(0:Int)<=(C.length:Int):=by omega
 have t1:(C.length:Int)<(C.length:Int)+1:=by omega
 have t2:(C.length:Int)<=(cT:Int):=by omega
 have Mb:=hid (Ld.out.trans (Q.mono Eq));have Sb:=hid f;have Mh:=hid Mg;clear O Kx Mg f;by_cases Mw:a<ws.length
 .have No:=aa Mf.out Q (kqa _);have ca:=(No.cellAt a (by omega)).trans (ni tl a (by omega));have Nv:=Qb.out a;rw[<-Nv] at ca;have Qq:decide ((ws.length:Int)<=(a:Int))=false:=by rw[kqh];omega
  have Qf:decide (ws.length<=a)=false:=by rw[kqh];omega
  have Sc:(0:Int)<=(a:Int):=by omega
  have Se:(a:Int)<(ws.length:Int):=by omega
  clear No Nv;by_cases Y:tb ws a=0
  .have HV:=hid (GX Ma.out (G.out.bad Y));rw[Y] at ca;clear Y B;go_wp2;go_ret2;exact⟨.inr ⟨HV.out,rfl⟩,Mb.out⟩
  obtain⟨Kz,Lz⟩:=iU Ma.out Y;have Nm:=hid Kz;have Qu:(tb ws a==0)=false:=by rw[kqi];exact Y
  have Ly:=G.out.hlen;have cs:=(B.cellAt a (by omega)).trans (BG o a (by omega));have Sd:=hid Y;obtain⟨t,ht⟩:∃t:Nat,(ap (wd ws a)).typ=(t:Int):=⟨wd ws a/512%128,rfl⟩;have Qd:t<8:=by have h7:=(bH _).1 (fG Kz.2.2.2.1);have h5:=Kz.2.2.2.2.1;omega
  have Qr:Hid (flds ws a=bq (wd ws (96+2*t)) (wd ws (96+2*t+1))):=hid (by unfold flds;rw[ht];rfl);rw[ht] at Lz;rw[Lz] at ca Qu;have Sq:=hid Lz;have hwt:IntKind.i64.wrap ((t:Int)+1-1)=(t:Int):=by rw[kqt _ (by omega)];omega
  clear Kz Lz Y ht;cases D:o[a]?.getD false
  .rw[D] at cs;have fs:=B.frozenAt a;have Nb:o[a]? = some false:=by rw[kql (by omega)] at D |-;rw[kq5] at D;rw[D]
   have Nd:=hid (G.out.new_ Sd.out);have Qm:=hid (yY Nb);have I:=hid (show (wr.setCell ⟨wA.heap.size,a,none⟩ (.bool true)).ownsRow wA.heap.size 4 1 (.slice (some ⟨wA.heap.size,0,none⟩) ws.length ws.length) ws.length ((o.set a true).flatMap bJ) by
    rw[Am];exact (B.stored a (.bool true)).1)
   have Ll:=Q.setCell (p:=⟨wA.heap.size,a,none⟩) (kqa _) (.bool true);have Nq:=hid Ll;have Lm:(wr.setCell ⟨wA.heap.size,a,none⟩ (.bool true)).ownsRow W3.heap.size 3 1 (.slice (some ⟨gT,0,none⟩) C.length cT) C.length (C.flatMap gp):=JI Mh.out (p:=⟨wA.heap.size,a,none⟩) (by show gT≠wA.heap.size;omega) (.bool true);have Nh:=hid Lm;have c6:=(aa Mf.out Ll (kqa _)).cellAt a (by omega) |>.trans (ni tl a (by omega));rw[<-Qb.out a,Sq.out] at c6;have Ky:=hid (λW (h:RdW W W.heap.size A ws)=>xz A ws c ws.length t W rfl (by omega) St Qd h HO.out);unfold GW at Ky;rw[<-Qr.out] at Ky;clear B Sb;have Qe:=DP ws a;have Mj:Hid (∀j,j<(flds ws a).length->a+2+j<ws.length):=hid λj hj=>um Nm.out hj;have Nt:Hid (∀j,nb ws a (j+1)=nb ws a j++(if (flds ws a)[j]? = some 3/\wd ws (a+2+j)≠0 then [min (wd ws (a+2+j)) 2048] else [])):=hid λj=>A8 ws a j;have Qt:Hid (∀j,(nb ws a j).length<=j):=hid λj=>Ek ws a j;have Qz:=hid (HR.out.up (Ld.out.trans (Ll.mono Eq)) (Ld.out.trans (Ll.mono Eq)).size);obtain⟨F,hF⟩:=xq (flds ws a);rw[hF] at Ky Nd Qe Mj Nt;have hw2:IntKind.i64.wrap ((a:Int)+2)=(a:Int)+2:=kqt _ (by omega);have O:=Lu.out;clear hF Ll Lm D Nb;go_wp2_with fail
   refine (Ky.out _ Qz.out).mono ?_;rintro e w7 ⟨⟨A7,c7,rfl,Qj⟩,Lv⟩;have Qn:=hid Qj;have Sv:=hid (Nq.out.trans (Lv.mono Nq.out.size));have Su:=hid (aa I.out Lv (kqa _));have Sg:=hid (aa Nh.out Lv (kqa _));have Ny:W3.heap.size<=w7.heap.size:=by have:=Lv.size;rw[kz6] at this;omega
   clear Lv Qj cs ca c6 ct fs;go_wp2_with fail;go_loopw [12,110] (λv i w8=>∃j:Nat,j<=F.length/\i=.int .i64 j/\w8.ownsRow W3.heap.size 3 1 v (C++nb ws a j).length ((C++nb ws a j).flatMap gp)/\w8.ownsRow wA.heap.size 4 1 (.slice (some ⟨wA.heap.size,0,none⟩) ws.length ws.length) ws.length ((o.set a true).flatMap bJ)/\(∃H,w8.ownsRow H 5 1 (.slice A7 F.length c7) F.length (F.flatMap bv))/\W3.heap.size<=w8.heap.size/\Below wA.heap.size wA w8) (λ_ i _=>F.length-(intOf i).toNat)
   case atStart=>exact⟨0,kqz _,rfl,by rw[show C++nb ws a 0=C from kzt C];exact Sg.out,Su.out,⟨_,Qn.out⟩,Ny,Sv.out⟩
   obtain⟨j,hj,rfl,f,B,⟨H8,Lk⟩,Ln,R⟩:=hrel;have Nu:=R.size;have Na:(C++nb ws a j).length<=C.length+j:=by rw[kqs];have:=Qt.out j;omega
   by_cases Ls:j<F.length
   .obtain ⟨bF,oF,rfl,hbF,y0⟩:=RdY.at_ (show RdY wr wr.heap.size A7 F from Rd.of_own Lk) Ls;have Ql:=Mj.out j Ls;have Ni:=HR.out.up (Ld.out.trans (R.mono Eq)) (Ld.out.trans (R.mono Eq)).size;obtain⟨bW,oW,rfl,hbW,x0⟩:=RdW.at_ Ni Ql;rw[<-cF] at x0;have Lt:=hid (Nt.out j);rw[kql Ls] at Lt;have Mz:=Sf.out (a+2+j);have Me:=hid (dg Lk f (by decide));obtain⟨kd,Nc⟩:=xq (F[j]);obtain⟨x,hx⟩:=xq (wd ws (a+2+j));obtain⟨m,Mx⟩:=xq (C++nb ws a j);rw[Nc] at y0 Lt;rw[hx] at x0 Lt Mz;rw[Mx] at f Na;have Lf:Hid (C++nb ws a (j+1)=m++(if some kd=some 3/\x≠0 then [min x 2048] else [])):=hid (by rw[Lt.out,<-kxo,Mx]);have hji:(j:Int)<(F.length:Int):=by omega
    have hj0:(0:Int)<=(j:Int):=by omega
    have hw3:IntKind.i64.wrap ((a:Int)+2+(j:Int))=(a:Int)+2+(j:Int):=kqt _ (by omega);have i0':(0:Int)<=(a:Int)+2+(j:Int):=by omega
    have i1':(a:Int)+2+(j:Int)<(ws.length:Int):=by omega
    have it':((a:Int)+2+(j:Int)).toNat=a+2+j:=by omega
    have hmm:m.length<=40000:=by omega
    have r:=hid f;have M:=hid B;have La:=hid Lk;have HXL:=hid Mz;clear Lt Nc hx Mx Ni B Lk Ql Mz;by_cases T:kd=3
    .have e3:((kd:Int) != 3)=false:=by rw[kqr];omega
     have e3n:(kd != 3)=false:=by rw[kqr];exact T
     by_cases Lg:x=0
     .have e0:((x:Int)==0)=true:=by rw[kqx];omega
      have e0n:(x==0)=true:=by rw[kqx];exact Lg
      have HY:=hid (show C++nb ws a (j+1)=m by rw[Lf.out,if_neg (λh=>h.2 Lg),kzt]);clear T Lg Lf f;go_wp2;go_roundw
      case rel=>exact⟨j+1,by omega,by go_num,by rw[HY.out];exact r.out,M.out,⟨_,La.out⟩,Ln,R⟩
      case measure=>simp[intOf];omega
     have e0:((x:Int)==0)=false:=by rw[kqi];omega
     have e0n:(x==0)=false:=by rw[kqi];exact Lg
     have HY:=hid (show C++nb ws a (j+1)=m++[min x 2048] by rw[Lf.out,if_pos ⟨by rw[T],Lg⟩]);clear T Lg Lf;have Mu:=λ(z:Int) (h0:0<=z) (h1:z<=2048)=>show IntKind.i64.wrap z=z from kqt _ (by omega);have Lx:min x 2048=x/\x<=2048\/min x 2048=2048/\2048<x:=by omega
     rcases Lx with⟨O,Qw⟩|⟨O,Qw⟩
     .rw[O] at HY;have hwx:=Mu (x:Int) (by omega) (by omega);have hmin:(if (x:Int)<2048 then (x:Int) else 2048)=(x:Int):=by split<;>omega
      clear Mu O;go_wp2_with (at_builtin;refine kzh _ rfl _ _ 42 rfl W3.heap.size 3 i0 _ 1 8 underlying42 q.out.1 q.out.2.1 q.out.2.2.1 q.out.2.2.2 rfl (by decide) _ _ _ rfl (r.out.alloc _) ⟨_,0,none⟩ 1 1 [.int .i64 (x:Int)] rfl rfl (cI _ _ _) (by simp[Value.oneCell']) (by unfold maxLen;omega) (by omega) (by simp;omega) ?_;intro v1 w9 y V _;have Lr:=hid y;have N:=hid V;clear y V);go_roundw
      case rel =>
       have Mo:=N.out.size;rw[kqm] at Mo;refine⟨j+1,by omega,by go_num,by rw[HY.out,kqs,ly];exact Lr.out,(M.out.alloc _).kept N.out (.inr ?_),⟨_,(La.out.alloc _).kept N.out Me.out⟩,by omega,(R.alloc Nu _).grown N.out (by rw[kqm];omega) (λk hk=>by have:=(r.out.lt k hk).1;omega)⟩;intro h;have:=(r.out.lt wA.heap.size h.symm).1;omega
      case measure=>simp[intOf];omega
     rw[O] at HY;have hxi1:(2048:Int)<(x:Int):=by omega
     have hxi2:¬ (x:Int)<2048:=by omega
     have hxi3:¬ (x:Int)<=2048:=by omega
     have hxi4:¬ x<2048:=by omega
     have hxi5:¬ x<=2048:=by omega
     clear Mu O;go_wp2_with (at_builtin;refine kzh _ rfl _ _ 42 rfl W3.heap.size 3 i0 _ 1 8 underlying42 q.out.1 q.out.2.1 q.out.2.2.1 q.out.2.2.2 rfl (by decide) _ _ _ rfl (r.out.alloc _) ⟨_,0,none⟩ 1 1 [.int .i64 2048] rfl rfl (cI _ _ _) (by simp[Value.oneCell']) (by unfold maxLen;omega) (by omega) (by simp;omega) ?_;intro v1 w9 y V _;have Lr:=hid y;have N:=hid V;clear y V);go_roundw
     case rel =>
      have Mo:=N.out.size;rw[kqm] at Mo;refine⟨j+1,by omega,by go_num,by rw[HY.out,kqs,ly];exact Lr.out,(M.out.alloc _).kept N.out (.inr ?_),⟨_,(La.out.alloc _).kept N.out Me.out⟩,by omega,(R.alloc Nu _).grown N.out (by rw[kqm];omega) (λk hk=>by have:=(r.out.lt k hk).1;omega)⟩;intro h;have:=(r.out.lt wA.heap.size h.symm).1;omega
     case measure=>simp[intOf];omega
    have e3:((kd:Int) != 3)=true:=by rw[kqv];omega
    have e3n:(kd != 3)=true:=by rw[kqv];exact T
    have HY:=hid (show C++nb ws a (j+1)=m by rw[Lf.out,if_neg (λh=>T (Option.some.inj h.1)),kzt]);clear T Lf f;go_wp2;go_roundw
    case rel=>exact⟨j+1,by omega,by go_num,by rw[HY.out];exact r.out,M.out,⟨_,La.out⟩,Ln,R⟩
    case measure=>simp[intOf];omega
   obtain rfl:j=F.length:=by omega
   have r:=hid f;have M:=hid B;have hfs:=Qm.out;clear f B Lk;go_wp2;go_roundg (gk-1)
   case rel=>exact⟨o.set a true,C++nb ws a F.length,by omega,Nd.out,by show _<=_;omega,M.out,r.out,Ln,R⟩
   case measure=>omega
  rw[D] at cs;have Sj:=hid (G.out.old (show o[a]? = some true by
   rw[kql (by omega)] at D |-;rw[kq5] at D;rw[D]))
  have Lh:=hid B;have O:=Lu.out;clear B D G;go_wp2;go_roundg (gk-1)
  case rel=>exact⟨o,C,by omega,Sj.out,by show _<=_;omega,Lh.out,Mh.out,Nz,Q⟩
  case measure=>omega
 have Qq:decide ((ws.length:Int)<=(a:Int))=true:=by rw[kqo];omega
 have Qf:decide (ws.length<=a)=true:=by rw[kqo];omega
 have HV:=hid (GX Ma.out (G.out.bad (by
  by_cases h:tb ws a=0
  .exact h
  exact absurd (ro h) Mw)))
 clear B Mw;go_wp2;go_ret2;exact⟨.inr ⟨HV.out,rfl⟩,Mb.out⟩
def s7 (S:List Bool) (k:Nat):List Int:=((List.range k).filter λa=>S[a]?.getD false).map λa:Nat=>(a:Int)
theorem zS(ws:List Nat):(seenL ws).length=ws.length:=by simp[seenL]
theorem lv(h:a<ws.length):(seenL ws)[a]?.getD false=true↔Rch ws a:=by unfold seenL;rw[kxh,kvn h];simp
theorem eF(h:aC ws=0):dm ws=s7 (seenL ws) ws.length:=by
 unfold dm s7;rw[if_pos h];congr 1;refine List.filter_congr λa d=>?_;have b:=lv (ws:=ws) (kzi.1 d);cases c:(seenL ws)[a]?.getD false
 .rw[c] at b
  simpa using b
 rw[c] at b
 simpa using b
theorem vT(h:aC ws≠0):dm ws=[]:=by unfold dm;rw[if_neg h]
theorem xr(h:aj ws≠0):aC ws=aj ws:=by unfold aC;rw[if_neg h]
end Go.Proofs.YtpcajamacpbjcaaGreat
