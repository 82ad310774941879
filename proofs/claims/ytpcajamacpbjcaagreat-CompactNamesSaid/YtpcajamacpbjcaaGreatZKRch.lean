/- Texts laid together: RchP Hnd Hnd2 Flds Rch Rcd. -/
import Derived.Test.YtpcajamacpbjcaaGreatZKHead
import Derived.Test.YtpcajamacpbjcaaGreatZKHeap
import Derived.Deep.RegionHeld3
import Derived.Deep.DrawnRows
import Derived.Laws.OwnMore
set_option maxHeartbeats 16000000
set_option maxRecDepth 100000
set_option linter.all false
namespace Go.Proofs.YtpcajamacpbjcaaGreat
open Lib (hid)
variable {fn:Func}{seen:List Bool}{todo ws:List Nat}{xs:List Value}{B H a b c g i j k n sz x:Nat}{A:Option Addr}{p q:Tmp}{e t:TypeId}{u:Value}{W w w':World}
open Go.Proofs.Tryz
structure Sl where
 gen:Int
 used:Bool
 at_:Int
 deriving DecidableEq,Inhabited
def Sl.cells (x:Sl):List Value:=[.int .i64 x.gen,.bool x.used,.int .i64 x.at_]
theorem Sl.len(x:Sl):x.cells.length=3:=rfl
def fk (w:Nat):Sl:=⟨((w/4294967296%2147483648:Nat):Int),w/9223372036854775808==1,((w%4294967296:Nat):Int)⟩
def nJ (s:Sl):Bool:=if s.used=true then decide (0<s.gen)&&(decide (128<=s.at_)&&decide (s.at_<2048)) else s.at_==0
def slAt (ws:List Nat) (i:Nat):Sl:=fk (wd ws (112+i))
def pT (ws:List Nat) (k:Nat):Prop:=∀i,i<k->nJ (slAt ws i)=true
theorem vX(ws:List Nat):pT ws 0:=λi h=>absurd h (by omega)
theorem ww(h:pT ws k)(h1:nJ (slAt ws k)=true):pT ws (k+1):=λi hi=>by
 rcases kq6 i k with a|a
 .exact h i a
 .have:i=k:=by omega
  subst this;exact h1
def slsOk (ws:List Nat):Bool:=(List.range 16).all λi=>nJ (slAt ws i)
theorem cO(ws:List Nat):slsOk ws=true↔pT ws 16:=by unfold slsOk pT;rw[kzo];exact⟨λh i a=>h i (kzn.2 a),λh i a=>h i (kzn.1 a)⟩
theorem zR(hk:k<16)(h:nJ (slAt ws k)=false):slsOk ws=false:=by
 cases a:slsOk ws with
 | false=>rfl
 | true=>rw[(cO ws).1 a k hk] at h;cases h
def slL (ws:List Nat):List Sl:=(List.range 16).map (slAt ws)
theorem gH(ws:List Nat):(slL ws).length=16:=by simp[slL]
theorem sC(ws:List Nat)(h:i<(slL ws).length):(slL ws)[i]=slAt ws i:=by simp[slL]
def dt (ws:List Nat):Int:=if ap (ws.length:Int)=true then (if slsOk ws=true then 0 else 50) else 8
def eW (ws:List Nat):List Sl:=if dt ws=0 then slL ws else []
theorem wQ(h:ap (ws.length:Int)=false):dt ws=8:=by simp[dt,h]
theorem lA(h:ap (ws.length:Int)=true)(h2:slsOk ws=false):dt ws=50:=by simp[dt,h,h2]
theorem i9(h:ap (ws.length:Int)=true)(h2:slsOk ws=true):dt ws=0/\eW ws=slL ws:=by simp[eW,dt,h,h2]
theorem lg(w:Nat):0<=(fk w).gen/\(fk w).gen<=2147483647/\0<=(fk w).at_/\(fk w).at_<=4294967295:=by unfold fk;dsimp only;have h1:=kz4 (w/4294967296) (show 0<2147483648 by omega);have h2:=kz4 w (show 0<4294967296 by omega);omega
theorem yL{s:Sl}(h:nJ s=true)(hu:s.used=true):0<s.gen/\128<=s.at_/\s.at_<2048:=by
 unfold nJ at h;rw[if_pos hu] at h
 simpa using h
def py (n:Nat) (l:List Bk):List Int:=l.foldl (λt b=>if b.kind=1 then t.set b.at_.toNat (b.typ+1) else t) (List.replicate n 0)
theorem AA{l:List Bk}(hk:k<l.length):py n (l.take (k+1))=if l[k].kind=1 then (py n (l.take k)).set l[k].at_.toNat (l[k].typ+1) else py n (l.take k):=by unfold py;rw[kqn hk,List.foldl_append];rfl
theorem qU(t:List Int)(l:List Bk):(l.foldl (λt b=>if b.kind=1 then t.set b.at_.toNat (b.typ+1) else t) t).length=t.length:=by
 induction l generalizing t with
 | nil=>rfl
 | cons b l ih=>simp only[kjm];rw[ih];split<;>simp
theorem pL(n:Nat)(l:List Bk):(py n l).length=n:=by unfold py;rw[qU,kxt]
theorem CA(l:List Bk)(t:List Int)(P:Nat->Int->Prop)(h0:∀a,(t[a]?.getD 0)=0\/P a (t[a]?.getD 0))(h1:∀b∈l,b.kind=1->P b.at_.toNat (b.typ+1))(a:Nat):
 ((l.foldl (λt b=>if b.kind=1 then t.set b.at_.toNat (b.typ+1) else t) t)[a]?.getD 0)=0\/P a ((l.foldl (λt b=>if b.kind=1 then t.set b.at_.toNat (b.typ+1) else t) t)[a]?.getD 0):=by
 induction l generalizing t with
 | nil=>exact h0 a
 | cons b l ih =>
  simp only[kjm];refine ih _ (λa=>?_) (λx c=>h1 x (by simp[c]));split
  .rename_i hk;rw[kxb];split
   .rename_i e;subst e;split
    .right;exact h1 b (by simp) hk
    left;rfl
   exact h0 a
  exact h0 a
theorem Fj(l:List Bk)(t:List Int)(a:Nat)(ha:a<t.length)(h:(t[a]?.getD 0)≠0\/∃b∈l,b.kind=1/\b.at_.toNat=a)(hty:∀b∈l,b.kind=1->0<=b.typ):
 ((l.foldl (λt b=>if b.kind=1 then t.set b.at_.toNat (b.typ+1) else t) t)[a]?.getD 0)≠0:=by
 induction l generalizing t with
 | nil =>
  rcases h with h|⟨b,i,-⟩
  .exact h
  cases i
 | cons b l ih =>
  simp only[kjm];refine ih _ (by split<;>simp[ha]) ?_ (λx c=>hty x (by simp[c]));by_cases f:b.kind=1
  .rw[if_pos f,kxb];by_cases e:b.at_.toNat=a
   .left;rw[if_pos e,if_pos (by omega)];have:=hty b (by simp) f;simp only[kq8,ne_eq];omega
   rw[if_neg e];rcases h with h|⟨x,c,d,g⟩
   .exact .inl h
   rcases kqt.1 c with rfl|c
   .exact absurd g e
   exact .inr ⟨x,c,d,g⟩
  rw[if_neg f];rcases h with h|⟨x,c,d,g⟩
  .exact .inl h
  rcases kqt.1 c with rfl|c
  .exact absurd d f
  exact .inr ⟨x,c,d,g⟩
def tb (ws:List Nat) (a:Nat):Int:=(py ws.length (af ws))[a]?.getD 0
theorem rg(h:tb ws a≠0):a<ws.length:=by
 rcases kq6 a ws.length with b|b
 .exact b
 unfold tb at h;rw[kzd (by rw[pL];exact b)] at h;exact absurd rfl h
def fT (ws:List Nat) (a:Nat):Prop:=128<=a/\a%2=0/\a<ws.length/\stands ws a=true/\(ar (wd ws a)).kind=1/\du ws (bkAt ws a)=true/\∃k,∃h:k<(af ws).length,(af ws)[k]=bkAt ws a/\blocks ws a=some ((af ws).drop k)
theorem oh(h:ah ws=0)(hk:k<(af ws).length)(h1:(af ws)[k].kind=1):∃a,(af ws)[k]=bkAt ws a/\fT ws a:=by obtain⟨hs,l,d,c,f⟩:=ay h;subst f;obtain⟨a,b,g,j,m,i,e⟩:=b9 _ _ d (by omega) k hk;refine⟨a,b,j,g,m,i,by rw[b] at h1;exact h1,?_,k,hk,b,e⟩;rw[kzo] at c;rw[<-b];exact c _ (kqp hk)
theorem ik(h:ah ws=0)(ht:tb ws a≠0):fT ws a/\tb ws a=(ar (wd ws a)).typ+1:=by
 have d:=CA (af ws) (List.replicate ws.length 0) (λa v=>fT ws a/\v=(ar (wd ws a)).typ+1) (λa=>.inl (by
  rw[kj3];split<;>rfl)) (λb f e=>by
  obtain⟨k,c,rfl⟩:=kq2 f;obtain⟨a,i,g⟩:=oh h c e;rw[i];have:(bkAt ws a).at_.toNat=a:=by rw[ab,kqi]
  rw[this];exact⟨g,rfl⟩) a
 exact d.resolve_left ht
theorem obj_tb(h:ah ws=0)(ho:fT ws a):tb ws a=(ar (wd ws a)).typ+1/\tb ws a≠0:=by
 obtain⟨h1,h2,l,h4,n,h6,k,f,e,h8⟩:=ho;have c:tb ws a≠0:=by unfold tb py;refine Fj _ _ _ (by rw[kxt];exact l) (.inr ⟨_,kqp f,by rw[e];exact n,by rw[e,ab,kqi]⟩) (λb g d=>?_);obtain⟨m,j,rfl⟩:=kq2 g;obtain⟨a',i,e2⟩:=oh h j d;rw[i];show 0<=((_:Nat):Int);omega
 exact⟨(ik h c).2,c⟩
def flds (ws:List Nat) (a:Nat):List Nat:=bB (wd ws (96+2*(ar (wd ws a)).typ.toNat)) (wd ws (96+2*(ar (wd ws a)).typ.toNat+1))
theorem xE(ws:List Nat)(a:Nat):(flds ws a).length<=8:=mx _ _
theorem r8(h:fT ws a)(hi:i<(flds ws a).length):a+2+i<ws.length:=by
 obtain⟨h1,h2,h3,j,e,g,-⟩:=h;have hs:=aG j;have f:du ws (bkAt ws a)=cK ws (bkAt ws a):=by
  unfold du;have:((bkAt ws a).kind != 1)=false:=by rw[kqq];exact e
  rw[this,Bool.false_or]
 have c:=js (ws:=ws) (b:=bkAt ws a) e;rw[f] at g;rw[f,g] at c;have c:=c.symm;simp only[kqo,kqw] at c;have d:=c.2;rw[bC] at d;have h8:(flds ws a).length=(bB (wd ws (tyA (bkAt ws a))) (wd ws (tyA (bkAt ws a)+1))).length:=rfl;unfold bZ at d;omega
inductive Rch (ws:List Nat):Nat->Prop
 | slot (i:Nat) (hi:i<16) (hu:(slAt ws i).used=true):Rch ws (slAt ws i).at_.toNat
 | ref (a i:Nat) (ha:Rch ws a) (ht:tb ws a≠0) (hi:(flds ws a)[i]? = some 3) (hv:wd ws (a+2+i)≠0):Rch ws (min (wd ws (a+2+i)) 2048)
def oa (ws:List Nat):Prop:=∀a,Rch ws a->tb ws a≠0
def me (ws:List Nat) (a:Nat) (j:Nat):List Nat:=(List.range j).filterMap λi=>if (flds ws a)[i]? = some 3/\wd ws (a+2+i)≠0 then some (min (wd ws (a+2+i)) 2048) else none
theorem Ar(ws:List Nat)(a j:Nat):me ws a (j+1)=me ws a j++(if (flds ws a)[j]? = some 3/\wd ws (a+2+j)≠0 then [min (wd ws (a+2+j)) 2048] else []):=by unfold me;rw[kva,kk2];congr 1;simp only[kvb,kvl];split<;>simp_all
theorem Do(ws:List Nat)(a j:Nat):(me ws a j).length<=j:=by unfold me;have:=kkl (λi=>if (flds ws a)[i]? = some 3/\wd ws (a+2+i)≠0 then some (min (wd ws (a+2+i)) 2048) else none) (List.range j);rwa [kkx] at this
theorem BM(h:x∈me ws a j):∃i,(flds ws a)[i]? = some 3/\wd ws (a+2+i)≠0/\x=min (wd ws (a+2+i)) 2048:=by
 unfold me at h;rw[kjs] at h;obtain⟨i,-,b⟩:=h;split at b
 .rename_i h3;injection b with b;exact⟨i,h3.1,h3.2,b.symm⟩
 cases b
theorem CT(h1:(flds ws a)[i]? = some 3)(h2:wd ws (a+2+i)≠0):min (wd ws (a+2+i)) 2048∈me ws a (flds ws a).length:=by unfold me;rw[kjs];refine⟨i,kzn.2 (kq7.1 h1).1,?_⟩;rw[if_pos ⟨h1,h2⟩]
structure Wk (ws:List Nat) (seen:List Bool) (todo:List Nat):Prop where
 hlen:seen.length=ws.length
 htodo:∀a∈todo,Rch ws a
 hseen:∀a,seen[a]? = some true->Rch ws a/\tb ws a≠0
 hslot:∀i,i<16->(slAt ws i).used=true->(slAt ws i).at_.toNat∈todo\/seen[(slAt ws i).at_.toNat]? = some true
 href:∀a i,seen[a]? = some true->(flds ws a)[i]? = some 3->wd ws (a+2+i)≠0->min (wd ws (a+2+i)) 2048∈todo\/seen[min (wd ws (a+2+i)) 2048]? = some true
theorem Wk.bad(h:Wk ws seen (todo++[a]))(h0:tb ws a=0):¬ oa ws:=λb=>b a (h.htodo a (by simp)) h0
theorem Wk.old(h:Wk ws seen (todo++[a]))(h1:seen[a]? = some true):Wk ws seen todo:=by
 have c:∀x,x∈todo++[a]\/seen[x]? = some true->x∈todo\/seen[x]? = some true:=by
  intro x b;rcases b with b|b
  .rcases kzu.1 b with b|b
   .exact .inl b
   rw[kqx] at b;subst b;exact .inr h1
  exact .inr b
 exact⟨h.hlen,λx b=>h.htodo x (by simp[b]),h.hseen,λi g e=>c _ (h.hslot i g e),λx i b f d=>c _ (h.href x i b f d)⟩
theorem Wk.new_(h:Wk ws seen (todo++[a]))(h0:tb ws a≠0):Wk ws (seen.set a true) (todo++me ws a (flds ws a).length):=by
 have k:=h.hlen;have g:=rg h0;have c:∀x,(seen.set a true)[x]? = some true↔x=a\/seen[x]? = some true:=by
  intro x;rw[kxb];by_cases e:a=x
  .subst e;simp[k,g]
  rw[if_neg e];constructor
  .exact .inr
  rintro (j|j)
  .exact absurd j.symm e
  exact j
 have f:∀x,x∈todo++[a]\/seen[x]? = some true->x∈todo++me ws a (flds ws a).length\/(seen.set a true)[x]? = some true:=by
  intro x b;rw[c];rcases b with b|b
  .rcases kzu.1 b with b|b
   .exact .inl (by simp[b])
   rw[kqx] at b;exact .inr (.inl b)
  exact .inr (.inr b)
 have d:Rch ws a:=h.htodo a (by simp);refine⟨by rw[kq4];exact k,λx b=>?_,λx b=>?_,λi p n=>f _ (h.hslot i p n),λx i b m l=>?_⟩
 .rcases kzu.1 b with b|b
  .exact h.htodo x (by simp[b])
  obtain⟨i,q,o,rfl⟩:=BM b;exact Rch.ref a i d h0 q o
 .rcases (c x).1 b with rfl|b
  .exact ⟨d,h0⟩
  exact h.hseen x b
 rcases (c x).1 b with rfl|b
 .exact .inl (by rw[kzu];exact .inr (CT m l))
 exact f _ (h.href x i b m l)
theorem Wk.end_(h:Wk ws seen []):oa ws/\∀a,seen[a]? = some true↔Rch ws a:=by
 have b:∀a,Rch ws a->seen[a]? = some true:=by
  intro a c
  induction c with
  | slot i hi hu=>exact (h.hslot i hi hu).resolve_left (by simp)
  | ref a i c ht hi hv ih=>exact (h.href a i ih hi hv).resolve_left (by simp)
 exact⟨λa c=>(h.hseen a (b a c)).2,λa=>⟨λd=>(h.hseen a d).1,b a⟩⟩
def sV (ws:List Nat) (k:Nat):List Nat:=(List.range k).filterMap λi=>if (slAt ws i).used=true then some (slAt ws i).at_.toNat else none
theorem zp(ws:List Nat)(k:Nat):sV ws (k+1)=sV ws k++(if (slAt ws k).used=true then [(slAt ws k).at_.toNat] else []):=by unfold sV;rw[kva,kk2];congr 1;simp only[kvb,kvl];split<;>simp_all
theorem uP(ws:List Nat)(k:Nat):(sV ws k).length<=k:=by unfold sV;have:=kkl (λi=>if (slAt ws i).used=true then some (slAt ws i).at_.toNat else none) (List.range k);rwa [kkx] at this
theorem Wk.start(ws:List Nat):Wk ws (List.replicate ws.length false) (sV ws 16):=by
 have d:∀a:Nat,(List.replicate ws.length false)[a]? ≠ some true:=by intro a;rw[kj3];split<;>simp
 refine⟨kxt,λa b=>?_,λa b=>absurd b (d a),λi e f=>.inl ?_,λa i b=>absurd b (d a)⟩
 .unfold sV at b;rw[kjs] at b;obtain⟨i,e,c⟩:=b;split at c
  .rename_i h3;injection c with c;subst c;exact Rch.slot i (kzn.1 e) h3
  cases c
 unfold sV;rw[kjs];exact⟨i,kzn.2 e,by rw[if_pos f]⟩
open Classical in
noncomputable def aA (ws:List Nat):Int:=if ah ws=0 then (if slsOk ws=true then (if oa ws then 0 else 50) else 50) else ah ws
open Classical in
noncomputable def seenL (ws:List Nat):List Bool:=(List.range ws.length).map λa=>decide (Rch ws a)
open Classical in
noncomputable def dU (ws:List Nat):List Int:=if aA ws=0 then ((List.range ws.length).filter λa=>decide (Rch ws a)).map (λa:Nat=>(a:Int)) else []
theorem Wk.seenL(h:Wk ws seen []):seen=seenL ws:=by
 have f:=h.end_.2;apply kx7;intro a;unfold Proofs.YtpcajamacpbjcaaGreat.seenL;by_cases b:a<ws.length
 .have d:a<seen.length:=by rw[h.hlen];exact b
  rw[kx8,kvc b,kql d];simp only[kzt,Option.some.injEq];have:=f a;rw[kql d,Option.some.injEq] at this;cases c:seen[a] with
  | true=>rw[c] at this;simp[this.1 rfl]
  | false =>
   rw[c] at this;have e:¬ Rch ws a:=λg=>by have:=this.2 g;cases this
   simp[e]
 rw[kzd (by rw[h.hlen];omega),kzd (by simp;omega)]
def mH (l:List Bool):Nat:=(l.filter (! ·)).length
theorem wF{l:List Bool}(h:l[a]? = some false):mH (l.set a true)+1=mH l:=by
 induction l generalizing a with
 | nil=>simp at h
 | cons b l ih =>
  cases a with
  | zero =>simp only[List.getElem?_cons_zero,Option.some.injEq] at h;subst h;simp[mH]
  | succ a =>simp only[List.getElem?_cons_succ] at h;have:=ih h;unfold mH at this |-;cases b<;>simp_all<;>omega
open Go.RowKit
def Sl.val (x:Sl):Value:=.agg #[.int .i64 x.gen,.bool x.used,.int .i64 x.at_]
theorem uO(g:Int)(u:Bool)(a:Int)(w:World)(h1:0<=g)(h2:g<=2147483647):
 Calls prog 171 #[.agg #[.int .i64 g,.bool u,.int .i64 a]] w λe w'=>e=.returned (.bool (nJ ⟨g,u,a⟩))/\Below w.heap.size w w':=by
 have f:=(kqk w.heap.size w).alloc (kqa _) (.cells #[.int .i64 g,.bool u,.int .i64 a] 52);have d:=hid f;have d1:decide (g<0)=false:=by rw[kqh];omega
 have d2:decide (2147483647<g)=false:=by rw[kqh];omega
 clear f;cases u
 .have H:Hid (nJ ⟨g,false,a⟩=(a==0)):=hid rfl;go_enter func171,ntmps171;go_wp2;go_ret;exact⟨by rw[H.out];rfl,d.out⟩
 have H:Hid (∀b:Bool,b=(decide (0<g)&&(decide (128<=a)&&decide (a<2048)))->nJ ⟨g,true,a⟩=b):=hid λb h=>by rw[h];rfl
 have c:(∃b,decide (0<g)=b)/\(∃b,decide (128<=a)=b)/\∃b,decide (a<2048)=b:=⟨⟨_,rfl⟩,⟨_,rfl⟩,⟨_,rfl⟩⟩;obtain⟨⟨k,j⟩,⟨o,m⟩,⟨l,n⟩⟩:=c;have i:=hid (H.out _ rfl);rw[j,m,n] at i;clear H h1 h2;cases k<;>cases o<;>cases l
 all_goals
  go_enter func171,ntmps171;go_wp2;go_ret;exact⟨by rw[i.out];rfl,d.out⟩
def slB (x:Nat):Sl:=if nJ (fk x)=true then fk x else ⟨0,false,0⟩
def yv (x:Nat):Int:=if nJ (fk x)=true then 0 else 50
theorem FK(h:nJ (fk x)=true):slB x=fk x/\yv x=0:=by simp[slB,yv,h]
theorem GN(h:nJ (fk x)=false):slB x=⟨0,false,0⟩/\yv x=50:=by simp[slB,yv,h]
theorem nU(h:fn.results=#[.cell p 52,.tmp q])(tmps:Array Value){v0 v1 v2:Value}(hb:Bx W g t #[v0,v1,v2])(hp:tmps.getD p undef=.pointer (some ⟨g,0,none⟩))(hq:tmps.getD q undef=u):
 (results fn tmps).run prog W=.ok (.tuple #[.agg #[v0,v1,v2],u]) W:=by obtain⟨c,a,b,-⟩:=hb.c3;rw[kxl] at hp hq;simp[results,h,hp,hq,go_sem,c,a,b]
theorem Hs(x:Nat)(hx:x<18446744073709551616):bits BinOp.and .u64 ((x:Int)/4294967296) 2147483647=((x/4294967296%2147483648:Nat):Int)/\bits BinOp.and .u64 (x:Int) 4294967295=((x%4294967296:Nat):Int) /\
 (((x:Int)/9223372036854775808)==1)=(x/9223372036854775808==1):=by
 refine⟨?_,se (k:=32) (m:=4294967295) hx rfl (by omega),?_⟩
 .have a:x/4294967296<18446744073709551616:=by omega
  have h:=se (k:=31) (m:=2147483647) a rfl (by omega);exact h
 rw[kzq,kqw,kqw];omega
theorem D9(x:Nat)(w:World)(hx:x<18446744073709551616):
 Calls prog 111 #[.int .u64 (x:Int)] w λe w'=>e=.returned (.tuple #[(slB x).val,.int .i64 (yv x)])/\Below w.heap.size w w':=by
 obtain⟨y,z,t⟩:=Hs x hx;obtain⟨o,n,p,A⟩:=lg x;have i:=hid (λh=>FK (x:=x) h);have d:=hid (λh=>GN (x:=x) h);have c:=hid (λW=>uO (fk x).gen (fk x).used (fk x).at_ W o n);have hx0:(0:Int)<=(x:Int):=by omega
 have I:((x/4294967296%2147483648:Nat):Int)=(fk x).gen:=rfl;have C:((x%4294967296:Nat):Int)=(fk x).at_:=rfl;have H:(x/9223372036854775808==1)=(fk x).used:=rfl;rw[I] at y;rw[C] at z;rw[H] at t;clear I C H hx;obtain⟨s,J⟩:=xq (fk x);rw[J] at y z t o n p A c i d;obtain⟨g,u,a⟩:=s;dsimp only at y z t o n p A c;have w1:IntKind.i64.wrap g=g:=kqv _ (by omega);have w2:IntKind.i64.wrap a=a:=kqv _ (by omega);have G:=Bx.new w 52 #[.int .i64 0,.bool false,.int .i64 0];have E:=hid (G.alloc (.cells #[.int .i64 g,.bool u,.int .i64 a] 52));have r:=Bx.new (w.alloc (.cells #[.int .i64 0,.bool false,.int .i64 0] 52)) 52 #[.int .i64 g,.bool u,.int .i64 a];rw[kqm] at r;have F:=hid r;have D:=hid (((kqk w.heap.size w).alloc (kqa _) (.cells #[.int .i64 0,.bool false,.int .i64 0] 52)).alloc (aY (kqa _)) (.cells #[.int .i64 g,.bool u,.int .i64 a] 52));obtain⟨q,B⟩:∃q,nJ ⟨g,u,a⟩=q:=⟨_,rfl⟩;rw[B] at c i d;clear G r J B o n p A;go_enter func111,ntmps111;go_wp2_with fail;refine (c.out _).mono ?_;rintro e w3 ⟨rfl,b⟩;have f:=E.out.up b E.out.lt;have l:=F.out.up b F.out.lt;have k:=hid (D.out.trans (b.mono D.out.size));obtain⟨p0,p1,p2,f0,f1,f2,hg0⟩:=f.c3;obtain⟨n0,n1,n2,-⟩:=l.c3;have j:=hid f;clear f l b;cases q
 .have m:=hid (d.out rfl);go_wp2_with fail;exact kqr (v:=.tuple #[.agg #[.int .i64 0,.bool false,.int .i64 0],.int .i64 50]) (nU results111 _ (((j.out.set_ 0 _).set_ 1 _).set_ 2 _) rfl rfl) rfl ⟨by rw[m.out.1,m.out.2];rfl,((k.out.setCell (kqa _) _).setCell (kqa _) _).setCell (kqa _) _⟩
 have m:=hid (i.out rfl);go_wp2_with fail;exact kqr (v:=.tuple #[.agg #[.int .i64 g,.bool u,.int .i64 a],.int .i64 0]) (nU results111 _ (((j.out.set_ 0 _).set_ 1 _).set_ 2 _) rfl rfl) rfl ⟨by rw[m.out.1,m.out.2];rfl,((k.out.setCell (kqa _) _).setCell (kqa _) _).setCell (kqa _) _⟩
def noSl:Sl:=⟨0,false,0⟩
def kp (ws:List Nat) (k:Nat):List Sl:=(List.range 16).map λi=>if i<k then slAt ws i else noSl
def ib (l:List Sl):Array Value:=(l.flatMap Sl.cells).toArray
theorem jl(ws:List Nat)(k:Nat):(kp ws k).length=16:=by simp[kp]
theorem mB(ws:List Nat)(k j:Nat)(hj:j<16):(kp ws k)[j]? = some (if j<k then slAt ws j else noSl):=by simp[kp,hj]
theorem ve(ws:List Nat)(k:Nat)(hk:k<16):kp ws (k+1)=(kp ws k).set k (slAt ws k):=by
 apply kx7;intro j;rw[kxb];by_cases a:j<16
 .rw[mB _ _ _ a,mB _ _ _ a];by_cases e:k=j
  .subst e;rw[if_pos (show k<k+1 by omega),if_pos rfl,if_pos (by rw[jl];exact hk)]
  rw[if_neg e];by_cases h:j<k
  .rw[if_pos h,if_pos (by omega)]
  rw[if_neg h,if_neg (by omega)]
 rw[kzd (by rw[jl];omega),if_neg (by omega),kzd (by rw[jl];omega)]
theorem vQ(ws:List Nat):kp ws 0=List.replicate 16 noSl:=by
 apply kx7;intro j;by_cases a:j<16
 .rw[mB _ _ _ a,if_neg (by omega),kj3,if_pos a]
 rw[kzd (by rw[jl];omega),kzd (by simp;omega)]
theorem xF(ws:List Nat):kp ws 16=slL ws:=by unfold kp slL;apply kzy;intro i a;rw[if_pos (kzn.1 a)]
theorem sl_set(l:List Sl)(k:Nat)(x:Sl):(l.set k x).flatMap Sl.cells=(((l.flatMap Sl.cells).set (k*3) (.int .i64 x.gen)).set (k*3+1) (.bool x.used)).set (k*3+2) (.int .i64 x.at_):=by
 have d:=eF Sl.cells 3 Sl.len l k 0 (by omega) ⟨x.gen,(l[k]?.getD default).used,(l[k]?.getD default).at_⟩ (.int .i64 x.gen) (λy a=>by rw[a];rfl);have b:=eF Sl.cells 3 Sl.len (l.set k ⟨x.gen,(l[k]?.getD default).used,(l[k]?.getD default).at_⟩) k 1 (by omega) ⟨x.gen,x.used,(l[k]?.getD default).at_⟩ (.bool x.used) (λy a=>by
  rw[kxb] at a;simp only[if_true] at a;split at a
  .cases a;rfl
  cases a)
 have c:=eF Sl.cells 3 Sl.len (l.set k ⟨x.gen,x.used,(l[k]?.getD default).at_⟩) k 2 (by omega) x (.int .i64 x.at_) (λy a=>by
  rw[kxb] at a;simp only[if_true] at a;split at a
  .cases a;rfl
  cases a)
 rw[List.set_set] at b c;rw[c,b,d];rfl
theorem yY(l:List Sl)(k:Nat)(x:Sl):(((ib l).setIfInBounds (k*3) (.int .i64 x.gen)).setIfInBounds (k*3+1) (.bool x.used)).setIfInBounds (k*3+2) (.int .i64 x.at_)=ib (l.set k x):=by unfold ib;rw[sl_set];simp
theorem gQ(l:List Sl):(ib l).size=l.length*3:=by unfold ib;rw[kji,ci Sl.cells 3 Sl.len]
theorem Sl.one(x:Sl):∀u∈x.cells,u.oneCell'=true:=by intro u a;simp only[Sl.cells,kqt,kzb,or_false] at a;rcases a with rfl|rfl|rfl<;>rfl
theorem ky(l:List Sl):(ib l).all (·.oneCell')=true:=by unfold ib;rw[List.all_toArray,kzo];exact di Sl.one l
def bI:Array Value:=ib (List.replicate 16 noSl)
theorem fZ:bI.size=48:=by unfold bI;rw[gQ,kxt]
theorem lw:bI.all (·.oneCell')=true:=ky _
theorem ny(w:World):(zeroValue 118).run prog w=.ok (.agg bI) w:=by kernel_rfl
theorem Gw(w:World):(Instr.build 118 #[]).run prog w=.ok (.agg bI) w:=by kernel_rfl
theorem kf:(prog.info? 118).map (·.size)=some 48:=by kernel_rfl
theorem lE(l:List Sl)(h:j<l.length*3):∃u,(ib l)[j]? = some u:=by have:=gQ l;exact⟨_,kja (by omega)⟩
theorem kb(h:fn.results=#[.cell p 118,.tmp q])(tmps:Array Value){cs:Array Value}(hb:Bx W g t cs)(hs:cs.size=48)(hp:tmps.getD p undef=.pointer (some ⟨g,0,none⟩))(hq:tmps.getD q undef=u):
 (results fn tmps).run prog W=.ok (.tuple #[.agg cs,u]) W:=by
 have a:tmps[p]?.getD undef=.pointer (some ⟨g,0,none⟩):=by simpa using hp
 have b:tmps[q]?.getD undef=u:=by simpa using hq
 have c:(prog.info? 118).map (·.size)=some cs.size:=by rw[hs];exact kf
 have d:=run_loadVar_row W g t 118 cs (0,0) _ hb underlying118 rfl c;simp[results,h,a,b,asAddr,d]
def opV (ws:List Nat):Value:=.agg (if dt ws=0 then ib (slL ws) else bI)
theorem Fk(h:dt ws=0):opV ws=.agg (ib (slL ws)):=by simp[opV,h]
theorem D3(h:dt ws≠0):opV ws=.agg bI:=by simp[opV,h]
theorem ym(A:Option Addr)(ws:List Nat)(c n:Nat)(w:World)(hn:ws.length=n)(hm:n<=9223372036854775807)(hr:RdW w w.heap.size A ws)(ho:∀x∈ws,x<18446744073709551616):
 Calls prog 64 #[.slice A n c] w λe w'=>e=.returned (.tuple #[opV ws,.int .i64 (dt ws)])/\Below w.heap.size w w':=by
 subst hn;have HR:=hid hr;have Je:Hid (∀k,wd ws k<18446744073709551616):=hid (gu ho);have hzv:=ny;have hbv:=Gw;have p:=fZ;have T:=hid lw;have m:=kf;have b0:=Bx.new w 118 bI;have B:=(kqk w.heap.size w).alloc (kqa _) (.cells bI 118);clear hr ho;cases N:ap (ws.length:Int)
 .have HI:=hid (cn N);have O:=wQ N;have C:=hid (And.intro O (D3 (by rw[O];omega)));have D:=hid b0;have E:=hid B;rw[<-p] at m;have q:=m;clear N O b0 B m;go_enter func64,ntmps64;go_wp2_with fail;refine (aB A ws.length c _ hm).mono ?_;rintro e w1 ⟨rfl,rfl⟩;rw[HI.out];go_wp2_with (first
   | ((with_reducible refine aq 118 (.tmp 2) _ ?_);refine ai rfl _ _ _ rfl w.heap.size 118 bI bI (by rfl) (by rfl) D.out rfl q T.out ?_;intro w3 X Y;have g:=hid X;have Jb:=hid Y;clear X Y))
  exact kqr (v:=.tuple #[.agg bI,.int .i64 8]) (kb results64 _ g.out p rfl rfl) rfl ⟨by rw[C.out.1,C.out.2],Jb.out.below E.out (kqa _)⟩
 have HI:=hid (bG N);obtain⟨hb1,hb2,-⟩:=gJ ws N;have HS:=hid N;obtain⟨b,off,rfl,hb,-⟩:=RdW.at_ HR.out (show 0<ws.length by omega);have Jd:Hid (∀k (h:k<ws.length) (W:World),Below w.heap.size w W->W.cell? ⟨b,off+k,none⟩=some (.int .u64 (wd ws k:Int))):=hid λk h W I=>by
  obtain⟨b',off',e',-,h0⟩:=RdW.at_ (Rd.below HR.out I) h;cases e';rw[<-d7] at h0;exact h0
 have D:=hid b0;have E:=hid B;rw[<-p] at m;have q:=m;clear N b0 B m;go_enter func64,ntmps64;go_wp2_with fail;refine (aB _ ws.length c _ hm).mono ?_;rintro e w1 ⟨rfl,rfl⟩;rw[HI.out];go_wp2_with fail;go_loopw [15] (λi wr=>∃k:Nat,k<=16/\i=.int .i64 k/\Hid (pT ws k)/\Bx wr w.heap.size 118 bI/\Bx wr (w.heap.size+1) 118 (ib (kp ws k))/\Below w.heap.size w wr) (λi _=>16-(intOf i).toNat)
 case atStart =>
  have x1:=Bx.new (w.alloc (.cells bI 118)) 118 bI;rw[kqm] at x1;exact⟨0,kqy _,rfl,vX ws,D.out.alloc _,by rw[vQ];exact x1,E.out.alloc (by simp) _⟩
 obtain⟨k,hk,rfl,Z,q0,P,I⟩:=hrel;have hz:=I.size;have Q0:=hid q0;have Q1:=hid P;by_cases U:k<16
 .have h0:=Jd.out (112+k) (by omega) _ I;have a:=hid (λW=>D9 (wd ws (112+k)) W (Je.out _));have J:=hid (λh=>ww Z.out h);have R:=hid (λh=>lA HS.out (zR U h));have o:fk (wd ws (112+k))=slAt ws k:=rfl;have Jc:=hid (ve ws k U);have hsz:=jl ws k;obtain⟨u0,K⟩:=lE (kp ws k) (j:=k*3) (by omega);obtain⟨u1,M⟩:=lE (kp ws k) (j:=k*3+1) (by omega);obtain⟨u2,Q⟩:=lE (kp ws k) (j:=k*3+2) (by omega);have i1:(0:Int)<=112+(k:Int):=by omega
  have i2:(112:Int)+(k:Int)<(ws.length:Int):=by omega
  have n1:((112:Int)+(k:Int)).toNat=112+k:=by omega
  have hk1:(k:Int)<16:=by omega
  have hk0:(0:Int)<=(k:Int):=by omega
  obtain⟨x,hx⟩:=xq (wd ws (112+k));rw[hx] at h0 a o;cases d:nJ (slAt ws k)
  .have O:=R.out d;have C:=hid (And.intro O (D3 (by rw[O];omega)));rw[<-o] at d;rw[(GN d).1,(GN d).2] at a;unfold Sl.val at a;dsimp only at a;clear hx d O o R J q0 P K M Q;go_wp2_with fail;refine (a.out _).mono ?_;rintro e w3 ⟨rfl,f⟩;have u:=hid (Q0.out.up f Q0.out.lt);have g:=hid (I.trans (f.mono hz));clear f;go_wp2_with (first
    | ((with_reducible refine aq 118 (.tmp 2) _ ?_);refine ai rfl _ _ _ rfl w.heap.size 118 bI bI (by rfl) (by rfl) (u.out.alloc _) rfl q T.out ?_;intro w4 z t;have L:=hid z;have H:=hid t;clear z t))
   exact kqr (v:=.tuple #[.agg bI,.int .i64 50]) (kb results64 _ L.out p rfl rfl) rfl ⟨by rw[C.out.1,C.out.2],H.out.below (g.out.alloc g.out.size _) (kqa _)⟩
  have V:=hid (J.out d);rw[<-o] at d;rw[(FK d).1,(FK d).2,o] at a;have y:=yY (kp ws k) k (slAt ws k);rw[<-Jc.out] at y;have r:=hid y;obtain⟨s,S⟩:=xq (slAt ws k);rw[S] at a r;obtain⟨sg,su,sa⟩:=s;unfold Sl.val at a;dsimp only at a r;clear hx d o S y R J q0 P;go_wp2_with fail;refine (a.out _).mono ?_;rintro e w3 ⟨rfl,f⟩;have u:=Q1.out.up f Q1.out.lt;have Q3:=hid u;have Q4:=hid (Q0.out.up f Q0.out.lt);have hg3:=u.lt;have d0:=(u.cell (k*3)).trans K;have d1:=(u.cell (k*3+1)).trans M;have d2:=(u.cell (k*3+2)).trans Q;have f0:=u.frozen (k*3);have f1:=u.frozen (k*3+1);have f2:=u.frozen (k*3+2);have g:=hid (I.trans (f.mono hz));clear f u K M Q;go_wp2;go_roundw
  case rel =>
   refine⟨k+1,by omega,by go_num,V.out,(((Q4.out.far (by simp) _).far (by simp) _).far (by simp) _).alloc _,?_,(((g.out.setCell (by simp) _).setCell (by simp) _).setCell (by simp) _).alloc (by simpa using g.out.size) _⟩;rw[<-r.out];exact (((Q3.out.set_ (k*3) _).set_ (k*3+1) _).set_ (k*3+2) _).alloc _
  case measure=>simp[intOf];omega
 obtain rfl:k=16:=by omega
 have G:=i9 HS.out ((cO ws).2 Z.out);have C:=hid (And.intro G.1 (Fk G.1));rw[xF] at P;have l:(ib (slL ws)).size=48:=by rw[gQ,gH]
 obtain⟨cs,F⟩:=xq (ib (slL ws));have h1:cs.all (·.oneCell')=true:=by rw[<-F];exact ky _
 have H1:=hid h1;rw[F] at P C l;have Q5:=hid P;have Eq:(prog.info? 118).map (·.size)=some cs.size:=by rw[l];exact kf
 have Ja:cs.size=bI.size:=by rw[l,p]
 clear q0 P G F h1;go_wp2_with (first
  | ((with_reducible refine aH 118 (.tmp 5) ?_);refine kxc rfl _ _ rfl (w.heap.size+1) (by rfl) 118 cs (0,0) _ Q5.out underlying118 (by rfl) Eq ?_)
  | ((with_reducible refine aq 118 (.tmp 2) _ ?_);refine ai rfl _ _ _ rfl w.heap.size 118 bI cs (by rfl) (by rfl) Q0.out Ja Eq H1.out ?_;intro w4 z t;have L:=hid z;have H:=hid t;clear z t))
 exact kqr (v:=.tuple #[.agg cs,.int .i64 0]) (kb results64 _ L.out l rfl rfl) rfl ⟨by rw[C.out.1,C.out.2],H.out.below I (kqa _)⟩
theorem Rd.of_box{cs:Array Value}(h:Bx w g t cs)(hg:g<B):Rd w B (some ⟨g,0,none⟩) cs.toList:=λ_ =>
 ⟨g,0,rfl,hg,λj hj=>by
  rw[kxd,h.cell j]
  simp⟩
def RdS (w:World) (B:Nat) (A:Option Addr) (l:List Sl):Prop:=Rd w B A (l.flatMap Sl.cells)
theorem RdS.at_{l:List Sl}(h:RdS w B A l)(hk:k<l.length):
 ∃b a,A=some ⟨b,a,none⟩/\b<B/\w.cell? ⟨b,a+k*3,none⟩=some (.int .i64 l[k].gen)/\w.cell? ⟨b,a+k*3+1,none⟩=some (.bool l[k].used)/\w.cell? ⟨b,a+k*3+2,none⟩=some (.int .i64 l[k].at_):=by obtain⟨b,a,e,d,c⟩:=Rd.at_flat Sl.len h (by omega) hk;exact⟨b,a,e,d,c 0 (by omega),c 1 (by omega),c 2 (by omega)⟩
def Hr (ws:List Nat) (e:Ending) (w':World):Prop:=∃A c,e=.returned (.tuple #[.slice A (eW ws).length c,.int .i64 (dt ws)])/\RdS w' w'.heap.size A (eW ws)/\(eW ws).length<=c
theorem ER(A:Option Addr)(ws:List Nat)(c n:Nat)(w:World)(hn:ws.length=n)(hm:n<=9223372036854775807)(t:RdW w w.heap.size A ws)(ho:∀x∈ws,x<18446744073709551616):
 Calls prog 25 #[.slice A n c] w λe w'=>Hr ws e w'/\Below w.heap.size w w':=by
 have k:=hid (ym A ws c n w hn hm t ho);clear t ho hn hm;have o:=fZ;by_cases h:dt ws=0
 .have b:eW ws=slL ws:=by simp[eW,h]
  have i:=hid (And.intro h b);have G:=gH ws;rw[h,Fk h] at k;have d:(ib (slL ws)).size=48:=by rw[gQ,gH]
  obtain⟨l,u⟩:=xq (slL ws);rw[u] at d k G i;have C:Hid (ib l=(l.flatMap Sl.cells).toArray):=hid rfl;have I:=hid (ky l);have H:=hid G;obtain⟨cs,z⟩:=xq (ib l);rw[z] at k d C I;have m:(prog.info? 118).map (·.size)=some cs.size:=by rw[d];exact kf
  clear h b u z G o;go_enter func25,ntmps25;go_wp2_with fail;refine k.out.mono ?_;rintro e s ⟨rfl,a⟩;have F:=ny;have D:cs.size=bI.size:=by rw[d,fZ]
  have B:=Bx.new s 118 bI;have E:=hid B;have j:=hid (a.alloc a.size (.cells bI 118));have q:=a.size;clear B a;go_wp2_with (first
   | ((with_reducible refine aq 118 (.tmp 4) _ ?_);refine ai rfl _ _ _ rfl s.heap.size 118 bI cs (by rfl) (by rfl) E.out D m I.out ?_;intro K f g;have y:=hid f;have p:=hid (g.below j.out q);clear f g))
  go_ret2;refine⟨⟨some ⟨s.heap.size,0,none⟩,16,by rw[i.out.1,i.out.2,H.out];rfl,?_,by rw[i.out.2,H.out];omega⟩,p.out⟩;rw[i.out.2];have:=y.out;rw[C.out] at this;exact Rd.of_box this this.lt
 have b:eW ws=[]:=by simp[eW,h]
 have i:=hid b;rw[D3 h] at k;obtain⟨r,t⟩:=xq (dt ws);have J:=hid t;rw[t] at k h;have hrn:(r != 0)=true:=by rw[kqu];exact h
 have q:=hid lw;have m:(prog.info? 118).map (·.size)=some bI.size:=by rw[o];exact kf
 clear h b t o;go_enter func25,ntmps25;go_wp2_with fail;refine k.out.mono ?_;rintro e s ⟨rfl,a⟩;have F:=ny;have B:=Bx.new s 118 bI;have E:=hid B;have j:=hid (a.alloc a.size (.cells bI 118));have v:=a.size;clear B a;go_wp2_with (first
  | ((with_reducible refine aq 118 (.tmp 4) _ ?_);refine ai rfl _ _ _ rfl s.heap.size 118 bI bI (by rfl) (by rfl) E.out rfl m q.out ?_;intro K f g;have y:=hid f;have p:=hid (g.below j.out v);clear f g))
 go_ret2;exact⟨⟨none,0,by rw[J.out,i.out];rfl,by rw[i.out];exact Rd.nil_,by rw[i.out];exact kqa _⟩,p.out⟩
def rl (H:Nat) (a b:Nat) (e:Ending) (w':World):Prop:=∃A c,e=.returned (.tuple #[.slice A (bB a b).length c,.int .i64 (gI a b)])/\w'.ownsRow H 5 1 (.slice A (bB a b).length c) (bB a b).length ((bB a b).flatMap cc)
theorem kS(h:cw a b=false):rl H a b (.returned (.tuple #[.slice none 0 0,.int .i64 50])) w':=by
 have c:bB a b=[]:=by simp[bB,h]
 have d:gI a b=50:=by simp[gI,h]
 exact⟨none,0,by rw[c,d];rfl,by rw[c];exact kza _ _ _ _⟩
theorem wW{v:Value}(h0:cw a b=true)(h:w'.ownsRow H 5 1 v (fc a).length ((fc a).flatMap cc)):rl H a b (.returned (.tuple #[v,.int .i64 0])) w':=by
 have d:bB a b=fc a:=by simp[bB,h0]
 have e:gI a b=0:=by simp[gI,h0]
 obtain⟨A,c,rfl⟩:=aS h;exact⟨A,c,by rw[d,e],by rw[d];exact h⟩
theorem tI(a b:Nat)(w:World)(ha:a<18446744073709551616)(hb:b<18446744073709551616):
 Calls prog 117 #[.int .u64 (a:Int),.int .u64 (b:Int)] w λe w'=>rl w.heap.size a b e w'/\Below w.heap.size w w':=by
 have G:=hid (j8 a b);have ha0:(0:Int)<=(a:Int):=by omega
 have e1:=(sO a ha).1;have n:=hid (fP a);have D:=hid (λk h=>ur a k h);have U:=hid (λk=>uh a k ha);have Y:a%256<256:=kz4 _ (by omega);obtain⟨m,A⟩:=xq (a%256);rw[A] at e1 n D G Y;by_cases h8:8<m
 .have X:=hid (show cw a b=false by rw[G.out,show decide (m<=8)=false by rw[kqh];omega];rfl);clear A ha hb;go_enter func117,ntmps117;go_wp2;go_ret2;exact⟨kS X.out,kqk _ _⟩
 have E:m<=8:=by omega
 rw[show decide (m<=8)=true by rw[kq0];exact E] at G;have hx0:(0:Int)<=(m:Int):=by omega
 have HA:=hid ha;have X:=hid hb;have d8:decide ((8:Int)<(m:Int))=false:=by rw[kqh];omega
 clear A ha hb h8 Y;obtain⟨i0,hi,I,K,F⟩:=kzw mh;have HI:=hid hi;have Q:=hid I;have S:=hid K;have P:=hid F;clear hi I K F;go_enter func117,ntmps117;go_wp2_with fail;go_loopw [7,16] (λv i wr=>∃k:Nat,k<=m/\i=.int .u64 k/\wr.ownsRow w.heap.size 5 1 v k (((fc a).take k).flatMap cc)/\Below w.heap.size w wr) (λ_ i _=>m-(intOf i).toNat)
 case atStart=>exact⟨0,kqy _,rfl,kza _ _ _ _,kqk _ _⟩
 obtain⟨k,hk,rfl,c,y⟩:=hrel;have L:=y.size;by_cases C:k<m
 .have R:=U.out k;have N:=D.out k C;obtain⟨x,O⟩:=xq (a/4 ^ (k+4)%4);have hx3:x<4:=by rw[<-O];exact kz4 _ (by omega)
  rw[O] at R N;have J:=hid (show ((fc a).take (k+1)).flatMap cc=((fc a).take k).flatMap cc++[.int .u8 (x:Int)] by
   have hl:k<(fc a).length:=by rw[n.out];exact C
   rw[kqn hl,cP];rw[kql hl] at N;rw[Option.some.inj N];rfl)
  have hxi:(x:Int)<4:=by omega
  have hx00:(0:Int)<=(x:Int):=by omega
  have hki:(k:Int)<(m:Int):=by omega
  clear O N;go_wp2_with (at_builtin;refine kzk _ rfl _ _ 113 rfl w.heap.size 5 i0 _ 1 1 underlying113 HI.out Q.out S.out P.out rfl (by decide) _ _ _ rfl (c.alloc _) ⟨_,0,none⟩ 1 1 [.int .u8 (x:Int)] rfl rfl (dd _ _ _) (by simp[Value.oneCell']) (by unfold maxLen;omega) (by omega) (aY y.size) ?_;intro v1 M j T _;have f:=aO y y.size c T);go_roundw
  case rel=>exact⟨k+1,by omega,by go_num,by rw[J.out];exact j,f⟩
  case measure=>simp[intOf];omega
 obtain rfl:k=m:=by omega
 rw[kq5 (by rw[n.out];exact kqa _)] at c;obtain⟨A1,c1,rfl⟩:=aS c;have z:=hid (te A1 (fc a) c1 k wr n.out (by omega) (Rd.of_own c));have g:(fc a).length<=8:=by rw[n.out];exact E
 cases l:eV (fc a)
 .have s:=hid (ll g l);have B:=hid (show cw a b=false by rw[G.out,l];rfl);have V:=hid (show kwV (fc a)=.agg #[.int .u64 0,.int .u64 0] by simp[kwV,s.out,A8]);rw[s.out,V.out] at z;clear l g c;go_wp2_with fail;refine z.out.mono ?_;rintro e M ⟨rfl,f⟩;have d:=y.trans (f.mono L);go_wp2;go_ret2;exact⟨kS B.out,d.alloc d.size _⟩
 have s:=hid (jr g l);have V:=hid (show kwV (fc a)=.agg #[.int .u64 (iN (fc a):Nat),.int .u64 (iX (iN (fc a)):Nat)] by simp[kwV,s.out,A8]);have t:=hid (show cw a b=(iN (fc a)==a&&iX (iN (fc a))==b) by
  rw[G.out,l];by_cases h:iN (fc a)=a
  .rw[h];simp
  rw[show (iN (fc a)==a)=false by rw[kqj];exact h];simp only[kxp,kjv])
 rw[s.out,V.out] at z;obtain⟨p,Z⟩:=xq (iN (fc a));obtain⟨q,W⟩:=xq (iX p);rw[Z,W] at z t;clear l g Z W;by_cases r:p=a
 .by_cases u:q=b
  .have HY:=hid (show cw a b=true by rw[t.out,r,u];simp);have o:=ol p q a b;rw[show ((p:Int)==(a:Int))=true by rw[kqw];omega,show ((q:Int)==(b:Int))=true by rw[kqw];omega,Bool.and_self] at o;clear r u;go_wp2_with fail;refine z.out.mono ?_;rintro e M ⟨rfl,f⟩;have d:=y.trans (f.mono L);have j:=ak c f (kqa _);go_wp2;go_ret2;refine⟨wW HY.out (H:=w.heap.size) ?_,d.alloc d.size _⟩;rw[n.out];exact j.alloc _
  have B:=hid (show cw a b=false by rw[t.out,show (q==b)=false by rw[kqj];exact u,kjv]);have o:=ol p q a b;rw[show ((q:Int)==(b:Int))=false by rw[kqj];omega,kjv] at o;clear r u c;go_wp2_with fail;refine z.out.mono ?_;rintro e M ⟨rfl,f⟩;have d:=y.trans (f.mono L);go_wp2;go_ret2;exact⟨kS B.out,d.alloc d.size _⟩
 have B:=hid (show cw a b=false by rw[t.out,show (p==a)=false by rw[kqj];exact r,kxp]);have o:=ol p q a b;rw[show ((p:Int)==(a:Int))=false by rw[kqj];omega,kxp] at o;clear r c;go_wp2_with fail;refine z.out.mono ?_;rintro e M ⟨rfl,f⟩;have d:=y.trans (f.mono L);go_wp2;go_ret2;exact⟨kS B.out,d.alloc d.size _⟩
def Ef (H:Nat) (a b:Nat) (e:Ending) (w':World):Prop:=∃A c,e=.returned (.tuple #[.slice A (bB a b).length c,.bool (cw a b)])/\w'.ownsRow H 5 1 (.slice A (bB a b).length c) (bB a b).length ((bB a b).flatMap cc)
theorem wC(A:Option Addr)(ws:List Nat)(c n t:Nat)(w:World)(hn:ws.length=n)(hm:n<=1000000)(h2:256<=n)(ht:t<8)(hr:RdW w w.heap.size A ws)(ho:∀x∈ws,x<18446744073709551616):
 Calls prog 110 #[.slice A n c,.int .i64 (t:Int)] w λe w'=>Ef w.heap.size (wd ws (96+2*t)) (wd ws (96+2*t+1)) e w'/\Below w.heap.size w w':=by
 subst hn;have o:=gu ho (96+2*t);have r:=gu ho (96+2*t+1);have k:=hid (λW=>tI (wd ws (96+2*t)) (wd ws (96+2*t+1)) W o r);have i:=hid (mt (wd ws (96+2*t)) (wd ws (96+2*t+1)));obtain⟨b,a,rfl,q,m⟩:=RdW.at_ hr (show 96+2*t<ws.length by omega);obtain⟨b',off',u,-,l⟩:=RdW.at_ hr (show 96+2*t+1<ws.length by omega);cases u;rw[<-d7] at m l;obtain⟨x,f⟩:=xq (wd ws (96+2*t));obtain⟨y,h⟩:=xq (wd ws (96+2*t+1));rw[f] at m k i |-;rw[h] at l k i |-;have t0:(0:Int)<=(t:Int):=by omega
 have t8:(t:Int)<8:=by omega
 have w1:IntKind.i64.wrap (2*(t:Int))=2*(t:Int):=kqv _ (by omega);have w2:IntKind.i64.wrap (96+2*(t:Int))=96+2*(t:Int):=kqv _ (by omega);have w3:IntKind.i64.wrap (96+2*(t:Int)+1)=96+2*(t:Int)+1:=kqv _ (by omega);have i1:(0:Int)<=96+2*(t:Int):=by omega
 have i2:(96:Int)+2*(t:Int)<(ws.length:Int):=by omega
 have i3:(0:Int)<=96+2*(t:Int)+1:=by omega
 have i4:(96:Int)+2*(t:Int)+1<(ws.length:Int):=by omega
 have n1:((96:Int)+2*(t:Int)).toNat=96+2*t:=by omega
 have n2:((96:Int)+2*(t:Int)+1).toNat=96+2*t+1:=by omega
 clear hr o r f h ho ht;go_enter func110,ntmps110;go_wp2_with fail
 go_region_held3 (λX:World=>X.cell? ⟨b,a+(96+2*t),none⟩=some (.int .u64 (x:Int))/\X.cell? ⟨b,a+(96+2*t+1),none⟩=some (.int .u64 (y:Int))) (go_keep)
  (first | (go_at_call 117;refine (k.out _).mono ?_;rintro e w5 ⟨⟨s,v,rfl,g⟩,d⟩;have m0:=(d.cell (p:=⟨b,a+(96+2*t),none⟩) q).trans m;have m1:=(d.cell (p:=⟨b,a+(96+2*t+1),none⟩) q).trans l;have j:=hid g;clear g))
 go_wp2;go_ret2;exact⟨⟨s,v,by rw[i.out];rfl,j.out⟩,(kqk _ _).drew.trans d⟩
def fL (x:Nat):List Value:=[.int .i64 (x:Int)]
def bA (x:Bool):List Value:=[.bool x]
theorem qr(x:Nat):(fL x).length=1:=rfl
theorem fK(x:Bool):(bA x).length=1:=rfl
theorem AC(n:Nat):(List.replicate n (0:Int)).flatMap cE=List.replicate n (.int .i64 0):=by
 induction n with
 | zero=>rfl
 | succ n ih=>rw[kjl,kzp,ih,kjl];rfl
theorem vi(n:Nat):(List.replicate n false).flatMap bA=List.replicate n (.bool false):=by
 induction n with
 | zero=>rfl
 | succ n ih=>rw[kjl,kzp,ih,kjl];rfl
theorem DP(l:List Int)(k:Nat)(x:Int):(l.set k x).flatMap cE=(l.flatMap cE).set k (.int .i64 x):=by
 have:=eF cE 1 jm l k 0 (by omega) x (.int .i64 x) (λy _=>rfl)
 simpa using this
theorem AR(l:List Bool)(k:Nat)(x:Bool):(l.set k x).flatMap bA=(l.flatMap bA).set k (.bool x):=by
 have:=eF bA 1 fK l k 0 (by omega) x (.bool x) (λy _=>rfl)
 simpa using this
theorem mq(l:List Int)(k:Nat)(h:k<l.length):(l.flatMap cE)[k]? = some (.int .i64 (l[k]?.getD 0)):=by
 have:=jA cE 1 jm l k 0 h (by omega)
 simpa [cE,h] using this
theorem Al(l:List Bool)(k:Nat)(h:k<l.length):(l.flatMap bA)[k]? = some (.bool (l[k]?.getD false)):=by
 have:=jA bA 1 fK l k 0 h (by omega)
 simpa [bA,h] using this
theorem Dj:(prog.info? 3).map (λi=>(i.zero,i.size,i.bytes))=some (some (.int .i64 0),1,8):=by kernel_rfl
theorem Bc:(prog.info? 4).map (λi=>(i.zero,i.size,i.bytes))=some (some (.bool false),1,1):=by kernel_rfl
open Classical in
theorem xH(h:ah ws=0)(h1:slsOk ws=true)(h2:oa ws):aA ws=0:=by simp[aA,h,h1,h2]
open Classical in
theorem rc_sl(h:ah ws=0)(h1:slsOk ws=false):aA ws=50:=by simp[aA,h,h1]
open Classical in
theorem Eg(h:ah ws=0)(h2:¬ oa ws):aA ws=50:=by simp[aA,h,h2]
theorem kz(l:List Nat)(x:Nat):(l++[x]).flatMap fL=l.flatMap fL++[.int .i64 (x:Int)]:=by simp[fL]
theorem Hb{ys:List Value}(h:w.ownsRow H e 1 (.slice (some ⟨g,0,none⟩) (n+1) c) (n+1) (xs++ys))(hx:xs.length=n):w.ownsRow H e 1 (.slice (some ⟨g,0,none⟩) n c) n xs:=by
 refine⟨by rw[hx,kxh],.inr ?_⟩;rcases h.2 with⟨a,_⟩|⟨g',cap,b,a,f,i,h4,j,l,k⟩
 .cases a
 simp only[Value.slice.injEq,Option.some.injEq,Addr.mk.injEq,and_true,true_and] at a;obtain⟨rfl,rfl⟩:=a;refine⟨g,c,b,rfl,f,i,by omega,j,l,?_⟩;have d:=congrArg (List.take n) k;rw[kj6,kxh,kxa (by omega),List.take_left' hx] at d;rw[kxh];exact d
theorem co(h:w.ownsRow H e sz (.slice A n c) n xs):n<=c:=by obtain⟨A',c',b,a,-⟩:=kG h;cases b;exact a
theorem FO(h:w.ownsRow H e sz (.slice (some ⟨g,0,none⟩) n c) n xs){p:Addr}(hp:g≠p.block)(u:Value):(w.setCell p u).ownsRow H e sz (.slice (some ⟨g,0,none⟩) n c) n xs:=by
 refine⟨h.1,?_⟩;rcases h.2 with⟨a,_⟩|⟨k,d,b,a,f,i,j⟩
 .cases a
 refine .inr ⟨k,d,b,a,f,?_,j⟩;simp only[Value.slice.injEq,Option.some.injEq,Addr.mk.injEq,and_true,true_and] at a;obtain⟨rfl,rfl⟩:=a;exact (kkm w p u g hp).trans i
def RcRes (ws:List Nat) (B:Nat) (e:Ending) (w':World):Prop:=
 (aA ws=0/\∃g c,e=.returned (.tuple #[.slice (some ⟨g,0,none⟩) ws.length c,.int .i64 0])/\w'.ownsRow B 4 1 (.slice (some ⟨g,0,none⟩) ws.length c) ws.length ((seenL ws).flatMap bA)) \/
 (aA ws=50/\e=.returned (.tuple #[.slice none 0 0,.int .i64 50]))
theorem Cv(A L:Option Addr)(ws:List Nat)(c cl n:Nat)(l:List Bk)(w:World)(hn:ws.length=n)(hm:n<=9223372036854775807)(h0:ah ws=0)(hl:af ws=l)(hr:RdW w w.heap.size A ws)(hrl:RdB w w.heap.size L l)(ho:∀x∈ws,x<18446744073709551616):
 Calls prog 63 #[.slice A n c,.slice L l.length cl] w λe w'=>RcRes ws w.heap.size e w'/\Below w.heap.size w w':=by
 subst hn;have HR:=hid hr;have HL:=hid hrl;have HO:=hid ho;obtain⟨hs,-⟩:=ay h0;have Nh:=gJ ws hs;obtain⟨Qe,hb2,-⟩:=Nh;have No:Hid (∀k,wd ws k<18446744073709551616):=hid (gu ho);have Ju:=hid (ER A ws c ws.length w rfl hm hr ho);unfold Hr at Ju;have Kc:=hid h0;clear hr hrl ho;cases Ji:slsOk ws
 .have he:=lA hs Ji;have hq:eW ws=[]:=by simp[eW,he]
  rw[he,hq] at Ju;have HV:=hid (rc_sl h0 Ji);clear hs Ji he hq h0;go_enter func63,ntmps63;go_wp2_with fail;refine Ju.out.mono ?_;rintro e w1 ⟨⟨A1,c1,rfl,-,-⟩,Jb⟩;go_wp2;go_ret2;exact⟨.inr ⟨HV.out,rfl⟩,Jb⟩
 obtain⟨g1,g2⟩:=i9 hs Ji;rw[g1,g2,gH] at Ju;have Ng:=hid Ji;obtain⟨i0,hi,Lj,Lk,Lw⟩:=kzw Dj;obtain⟨i1,hj,Ll,Ms,Lt⟩:=kzw Bc;have q:=hid (And.intro hi (And.intro Lj (And.intro Lk Lw)));have Kf:=hid (And.intro hj (And.intro Ll (And.intro Ms Lt)));have Mx:=jd ws;rw[hl] at Mx;have Np:=hid hl;have Lz:Hid (∀k (h:k<l.length),l[k].kind=1->∃a t:Nat,l[k].at_=(a:Int)/\l[k].typ=(t:Int)/\a<ws.length/\t<128):=hid (by
  subst hl;intro k h h1;obtain⟨a,e1,e2⟩:=oh h0 h h1;refine⟨a,wd ws a/512%128,by rw[e1];rfl,by rw[e1];rfl,e2.2.2.1,kz4 _ (by omega)⟩)
 clear hl;clear hs Ji g1 g2 hi Lj Lk Lw hj Ll Ms Lt h0;go_enter func63,ntmps63;go_wp2_with fail;refine Ju.out.mono ?_;rintro e w1 ⟨⟨A1,c1,rfl,Ly,-⟩,Jb⟩;have Ny:=hid Ly;obtain⟨W2,Kz,E,Jq⟩:=run_make_full (P:=prog) w1 w1.heap.size 42 3 i0 (.int .i64 0) 1 underlying42 q.out.1 q.out.2.1 q.out.2.2.1 .i64 .i64 ws.length (by rw[q.out.2.2.2];omega) (by unfold maxLen;omega) (kqa _);have Me:W2.ownsRow w1.heap.size 3 1 (.slice (some ⟨w1.heap.size,0,none⟩) ws.length ws.length) ws.length ((py ws.length (l.take 0)).flatMap cE):=by show W2.ownsRow _ _ _ _ _ ((List.replicate ws.length (0:Int)).flatMap cE);rw[AC,<-toList_madeCells_one];have:=E;rw[kxh] at this;exact this
 have Je:=(kqk w1.heap.size w1).grown Jq (kqa _) (λk hk=>by cases hk);have Nv:=hid Me;have Ls:=hid Jb;have HB2:=hid (Jb.trans (Je.mono Jb.size));have Lm:=hid Je;have Mc:=hid Ny.out;have Km:=Jb.size;have hz2w:=Je.size;clear Ly E Jq Me Je Jb;go_wp2_with fail;clear Kz;go_loopw [34] (λi wr=>∃k:Nat,k<=l.length/\i=.int .i64 k/\wr.ownsRow w1.heap.size 3 1 (.slice (some ⟨w1.heap.size,0,none⟩) ws.length ws.length) ws.length ((py ws.length (l.take k)).flatMap cE)/\Below w1.heap.size w1 wr) (λi _=>l.length-(intOf i).toNat)
 case atStart=>exact⟨0,kqy _,rfl,Nv.out,Lm.out⟩
 obtain⟨k,hk,rfl,d,hB⟩:=hrel;have hz:=hB.size;by_cases Kt:k<l.length
 .have Jo:=Ls.out.trans (hB.mono Km);obtain⟨b,off,rfl,Qf,q0,q1,q2,q3,q4,q5⟩:=RdB.at_ (Rd.below HL.out Jo) Kt;have T:=hid (AA (n:=ws.length) Kt);have Lb:=hid (Lz.out k Kt);have Kx:=pL ws.length (l.take k);obtain⟨x,hx⟩:=xq (l[k]);obtain⟨tl,M⟩:=xq (py ws.length (l.take k));rw[hx] at q0 q1 q2 q3 q4 q5 T Lb;rw[M] at T d Kx;obtain⟨xa,xs,xk,xt,xm,xn⟩:=x;dsimp only at q0 q1 q2 q3 q4 q5 T Lb;have hlm:(k:Int)<(l.length:Int):=by omega
  clear hx M;by_cases Ja:xk=1
  .obtain ⟨a,t,ha,ht,Lf,Mg⟩:=Lb.out Ja;subst ha ht;have My:(xk==1)=true:=by rw[kqw];exact Ja
   have Kd:=hid (T.out.trans (if_pos Ja));simp only[kqi] at Kd;have hw1:IntKind.i64.wrap ((t:Int)+1)=(t:Int)+1:=kqv _ (by omega);have Nt:(a:Int)<(ws.length:Int):=by omega
   have Nq:(0:Int)<=(a:Int):=by omega
   have X:=d.alloc (.cells #[.int .i64 (a:Int),.int .i64 xs,.int .i64 xk,.int .i64 (t:Int),.bool xm,.int .u64 (xn:Int)] 55);have c0:=(d.cellAt a (by omega)).trans (mq tl a (by omega));have f0:=d.frozenAt a;have c0':=(X.cellAt a (by omega)).trans (mq tl a (by omega));have f0':=X.frozenAt a;obtain⟨u,hu⟩:=xq (tl[a]?.getD 0);rw[hu] at c0 c0';have hgw:=(d.lt _ rfl).2;have Kv:=hid d;clear X;clear Ja hu T d;go_wp2;go_roundw
   case rel =>
    refine⟨k+1,by omega,by go_num,?_,(hB.setCell (p:=⟨w1.heap.size,a,none⟩) (kqa _) _).alloc (by rw[kz6];exact hz) _⟩;rw[Kd.out,DP];exact (Kv.out.stored a _).1.alloc _
   case measure=>simp[intOf];omega
  have My:(xk==1)=false:=by rw[kqj];exact Ja
  have Kd:=hid (T.out.trans (if_neg Ja));have Kv:=hid d;clear Ja T d;go_wp2;go_roundw
  case rel=>exact⟨k+1,by omega,by go_num,by rw[Kd.out];exact Kv.out.alloc _,hB.alloc hz _⟩
  case measure=>simp[intOf];omega
 rename World=>wA
 rw[kq5 (by omega)] at d;obtain⟨tl,M⟩:=xq (py ws.length l);have Kx:=pL ws.length l;rw[M] at d Kx;have Mt:Hid (∀a,tb ws a=tl[a]?.getD 0):=hid λa=>by unfold tb;rw[Np.out,M]
 have Kj:=hid d;have Jo:=Ls.out.trans (hB.mono Km);have Jh:=hid Jo;have Z:=Jo.size;have Mw:=hid (Rd.below Mc.out hB);clear M d Jo;obtain⟨W3,Kz,E,Jq⟩:=run_make_full (P:=prog) wA wA.heap.size 114 4 i1 (.bool false) 1 underlying114 Kf.out.1 Kf.out.2.1 Kf.out.2.2.1 .i64 .i64 ws.length (by rw[Kf.out.2.2.2];omega) (by unfold maxLen;omega) (kqa _);have La:W3.ownsRow wA.heap.size 4 1 (.slice (some ⟨wA.heap.size,0,none⟩) ws.length ws.length) ws.length ((List.replicate ws.length false).flatMap bA):=by rw[vi,<-toList_madeCells_one];have:=E;rw[kxh] at this;exact this
 have Qb:=hid La;have Nu:=hid ((kqk wA.heap.size wA).grown Jq (kqa _) (λk hk=>by cases hk));have Nx:wA.heap.size<W3.heap.size:=by have:=La.lt wA.heap.size rfl;exact this.2
 clear E Jq La;go_wp2_with fail;clear Kz;go_loopw [12,54] (λv i w4=>∃k:Nat,k<=16/\i=.int .i64 k/\w4.ownsRow W3.heap.size 3 1 v (sV ws k).length ((sV ws k).flatMap fL)/\Below W3.heap.size W3 w4) (λ_ i _=>16-(intOf i).toNat)
 case atStart=>exact⟨0,kqy _,rfl,kza _ _ _ _,kqk _ _⟩
 obtain⟨k2,hk2,rfl,d,Kb⟩:=hrel;have Le:=Kb.size;have Jd:=Nu.out.trans (Kb.mono (kxr Nx));by_cases Ln:k2<16
 .obtain ⟨b,off,rfl,Qf,q0,q1,q2⟩:=RdS.at_ (Rd.below Mw.out (Jd.mono hz)) (show k2<(slL ws).length by rw[gH];exact Ln);rw[sC] at q0 q1 q2;have G:=hid (zp ws k2);have Ki:=uP ws k2;obtain⟨-,-,S,Jy⟩:=lg (wd ws (112+k2));have D:slAt ws k2=fk (wd ws (112+k2)):=rfl;rw[<-D] at S Jy;obtain⟨s,Lg⟩:=xq (slAt ws k2);rw[Lg] at q0 q1 q2 G S Jy;obtain⟨m,Li⟩:=xq (sV ws k2);rw[Li] at d G Ki;obtain⟨sg,su,sa⟩:=s;dsimp only at q0 q1 q2 G S Jy;obtain⟨u,rfl⟩:=kqz S;rw[kqi] at G;have hk16:(k2:Int)<16:=by omega
  have hk00:(0:Int)<=(k2:Int):=by omega
  clear D Lg Li Jd S;cases su
  .have Lc:=hid (G.out.trans (by simp:m++(if false=true then [u] else [])=m));clear G;go_wp2;go_roundw
   case rel=>exact⟨k2+1,by omega,by go_num,by rw[Lc.out];exact d.alloc _,Kb.alloc Le _⟩
   case measure=>simp[intOf];omega
  have Lc:=hid (show sV ws (k2+1)=m++[u] from G.out);clear G;go_wp2_with (at_builtin;refine kzk _ rfl _ _ 42 rfl W3.heap.size 3 i0 _ 1 8 underlying42 q.out.1 q.out.2.1 q.out.2.2.1 q.out.2.2.2 rfl (by decide) _ _ _ rfl ((d.alloc _).alloc _) ⟨_,0,none⟩ 1 1 [.int .i64 (u:Int)] rfl rfl (oK _ _ _ (kqm _ _)) (by simp[Value.oneCell']) (by unfold maxLen;omega) (by omega) (by simp;omega) ?_;intro v1 w2 y V _;have R:=aO (Kb.alloc Le (.cells #[.int .i64 sg,.bool true,.int .i64 (u:Int)] 52)) (by simp;omega) (d.alloc _) V);go_roundw
  case rel=>exact⟨k2+1,by omega,by go_num,by rw[Lc.out,kqs,kz];exact y,R⟩
  case measure=>simp[intOf];omega
 obtain rfl:k2=16:=by omega
 have Ks:=Wk.start ws;have Ki:=uP ws 16;obtain⟨td0,Kq⟩:=xq (sV ws 16);rw[Kq] at Ks d Ki;have Qc:=hid Ks;have Lo:=hid d;have Md:=hid (ak Qb.out Kb (kqa _));have U:mH (List.replicate ws.length false)=ws.length:=by simp[mH]
 have Nm:=hid U;have Na:=hid Jd;clear Kq Ks d U Jd;go_wp2_with fail;go_loopg [12] 30000 (λg v w5=>∃(o:List Bool) (K:List Nat),g<=30000/\Hid (Wk ws o K)/\Hid (mH o*9+K.length<=g)/\w5.ownsRow wA.heap.size 4 1 (.slice (some ⟨wA.heap.size,0,none⟩) ws.length ws.length) ws.length (o.flatMap bA)/\w5.ownsRow W3.heap.size 3 1 v K.length (K.flatMap fL)/\W3.heap.size<=w5.heap.size/\Below wA.heap.size wA w5)
 case atStart=>exact⟨List.replicate ws.length false,td0,kqa _,Qc.out,by show _<=_;rw[Nm.out];omega,Md.out,Lo.out,Le,Na.out⟩
 obtain⟨o,K,hg30,I,Js,B,f,Ma,R⟩:=hrel;have hz5:=R.size;rcases List.eq_nil_or_concat K with rfl|⟨C,a,rfl⟩
 .have Kp:=I.out.end_;have HV:=hid (xH Kc.out Ng.out Kp.1);have Nj:=hid I.out.seenL;have Jw:=hid B;rw[kxk] at f;obtain⟨A6,c6,rfl⟩:=aS f;have Kg:=hid (Jh.out.trans (R.mono Z));clear Kp B f Js I;go_wp2;go_ret2;exact⟨.inl ⟨HV.out,wA.heap.size,ws.length,rfl,by rw[<-Nj.out];exact am Jw.out Z⟩,Kg.out⟩
 simp only[List.concat_eq_append,kqs,List.length_singleton] at I Js f;have O:=Js.out;rw[kz] at f;obtain⟨gT,cT,rfl⟩:∃g c,u12=.slice (some ⟨g,0,none⟩) (C.length+1) c:=by obtain⟨g,c,h1,_⟩:=f.form (by omega);exact⟨g,c,h1⟩
 have hcT:=co f;have U:=ci fL 1 qr C;rw[kxh] at U;have ct:=(f.cellAt C.length (by omega)).trans (by rw[kxe (by omega),U,kvg];rfl:_=some (.int .i64 (a:Int)));have Kl:=Hb f U;have hgT:=f.lt gT rfl;have hml:C.length<=30000:=by omega
 have hwl:IntKind.i64.wrap ((C.length:Int)+1-1)=(C.length:Int):=by rw[kqv _ (by omega)];omega
 have hd0:decide ((0:Int)<(C.length:Int)+1)=true:=by rw[kq0];omega
 have t0:(0:Int)<=(C.length:Int):=by omega
 have t1:(C.length:Int)<(C.length:Int)+1:=by omega
 have t2:(C.length:Int)<=(cT:Int):=by omega
 have Kg:=hid (Jh.out.trans (R.mono Z));have Qa:=hid f;have Kk:=hid Kl;clear O U Kl f;by_cases Lf:a<ws.length
 .have Lv:=ak Kj.out R (kqa _);have ca:=(Lv.cellAt a (by omega)).trans (mq tl a (by omega));have Mo:=Mt.out a;rw[<-Mo] at ca;have Nf:decide ((ws.length:Int)<=(a:Int))=false:=by rw[kqh];omega
  have Lq:decide (ws.length<=a)=false:=by rw[kqh];omega
  have Nq:(0:Int)<=(a:Int):=by omega
  have Nt:(a:Int)<(ws.length:Int):=by omega
  clear Lv Mo;by_cases Y:tb ws a=0
  .have HV:=hid (Eg Kc.out (I.out.bad Y));rw[Y] at ca;clear Y B;go_wp2;go_ret2;exact⟨.inr ⟨HV.out,rfl⟩,Kg.out⟩
  obtain⟨Jc,Kh⟩:=ik Kc.out Y;have Lr:=hid Jc;have Qh:(tb ws a==0)=false:=by rw[kqj];exact Y
  have Ki:=I.out.hlen;have cs:=(B.cellAt a (by omega)).trans (Al o a (by omega));have Mv:=hid Y;obtain⟨t,ht⟩:∃t:Nat,(ar (wd ws a)).typ=(t:Int):=⟨wd ws a/512%128,rfl⟩;have Mg:t<8:=by have h7:=(bt _).1 (fE Jc.2.2.2.1);have h5:=Jc.2.2.2.2.1;omega
  have Mu:Hid (flds ws a=bB (wd ws (96+2*t)) (wd ws (96+2*t+1))):=hid (by unfold flds;rw[ht];rfl);rw[ht] at Kh;rw[Kh] at ca Qh;have Ns:=hid Kh;have hwt:IntKind.i64.wrap ((t:Int)+1-1)=(t:Int):=by rw[kqv _ (by omega)];omega
  clear Jc Kh Y ht;cases D:o[a]?.getD false
  .rw[D] at cs;have fs:=B.frozenAt a;have Mp:o[a]? = some false:=by rw[kql (by omega)] at D |-;rw[kq8] at D;rw[D]
   have Lp:=hid (I.out.new_ Mv.out);have Nk:=hid (wF Mp);have G:=hid (show (wr.setCell ⟨wA.heap.size,a,none⟩ (.bool true)).ownsRow wA.heap.size 4 1 (.slice (some ⟨wA.heap.size,0,none⟩) ws.length ws.length) ws.length ((o.set a true).flatMap bA) by
    rw[AR];exact (B.stored a (.bool true)).1)
   have Jp:=R.setCell (p:=⟨wA.heap.size,a,none⟩) (kqa _) (.bool true);have Mb:=hid Jp;have Jv:(wr.setCell ⟨wA.heap.size,a,none⟩ (.bool true)).ownsRow W3.heap.size 3 1 (.slice (some ⟨gT,0,none⟩) C.length cT) C.length (C.flatMap fL):=FO Kk.out (p:=⟨wA.heap.size,a,none⟩) (by show gT≠wA.heap.size;omega) (.bool true);have Mm:=hid Jv;have c6:=(ak Kj.out Jp (kqa _)).cellAt a (by omega) |>.trans (mq tl a (by omega));rw[<-Mt.out a,Ns.out] at c6;have Jg:=hid (λW (h:RdW W W.heap.size A ws)=>wC A ws c ws.length t W rfl (by omega) Qe Mg h HO.out);unfold Ef at Jg;rw[<-Mu.out] at Jg;clear B Qa;have Mf:=xE ws a;have Ko:Hid (∀j,j<(flds ws a).length->a+2+j<ws.length):=hid λj hj=>r8 Lr.out hj;have Mq:Hid (∀j,me ws a (j+1)=me ws a j++(if (flds ws a)[j]? = some 3/\wd ws (a+2+j)≠0 then [min (wd ws (a+2+j)) 2048] else [])):=hid λj=>Ar ws a j;have Qd:Hid (∀j,(me ws a j).length<=j):=hid λj=>Do ws a j;have Nz:=hid (HR.out.up (Jh.out.trans (Jp.mono Z)) (Jh.out.trans (Jp.mono Z)).size);obtain⟨F,hF⟩:=xq (flds ws a);rw[hF] at Jg Lp Mf Ko Mq;have hw2:IntKind.i64.wrap ((a:Int)+2)=(a:Int)+2:=kqv _ (by omega);have O:=Js.out;clear hF Jp Jv D Mp;go_wp2_with fail
   refine (Jg.out _ Nz.out).mono ?_;rintro e w7 ⟨⟨A7,c7,rfl,Lh⟩,Jr⟩;have Qg:=hid Lh;have Mz:=hid (Mb.out.trans (Jr.mono Mb.out.size));have Nr:=hid (ak G.out Jr (kqa _));have Nb:=hid (ak Mm.out Jr (kqa _));have Lx:W3.heap.size<=w7.heap.size:=by have:=Jr.size;rw[kz6] at this;omega
   clear Jr Lh cs ca c6 ct fs;go_wp2_with fail;go_loopw [12,110] (λv i w8=>∃j:Nat,j<=F.length/\i=.int .i64 j/\w8.ownsRow W3.heap.size 3 1 v (C++me ws a j).length ((C++me ws a j).flatMap fL)/\w8.ownsRow wA.heap.size 4 1 (.slice (some ⟨wA.heap.size,0,none⟩) ws.length ws.length) ws.length ((o.set a true).flatMap bA)/\(∃H,w8.ownsRow H 5 1 (.slice A7 F.length c7) F.length (F.flatMap cc))/\W3.heap.size<=w8.heap.size/\Below wA.heap.size wA w8) (λ_ i _=>F.length-(intOf i).toNat)
   case atStart=>exact⟨0,kqy _,rfl,by rw[show C++me ws a 0=C from kzr C];exact Nb.out,Nr.out,⟨_,Qg.out⟩,Lx,Mz.out⟩
   obtain⟨j,hj,rfl,f,B,⟨H8,Ka⟩,Jl,Q⟩:=hrel;have Mh:=Q.size;have Ky:(C++me ws a j).length<=C.length+j:=by rw[kqs];have:=Qd.out j;omega
   by_cases Jm:j<F.length
   .obtain ⟨bF,oF,rfl,hbF,y0⟩:=RdY.at_ (show RdY wr wr.heap.size A7 F from Rd.of_own Ka) Jm;have Mj:=Ko.out j Jm;have Mr:=HR.out.up (Jh.out.trans (Q.mono Z)) (Jh.out.trans (Q.mono Z)).size;obtain⟨bW,oW,rfl,hbW,x0⟩:=RdW.at_ Mr Mj;rw[<-d7] at x0;have Jt:=hid (Mq.out j);rw[kql Jm] at Jt;have Kw:=No.out (a+2+j);have Kn:=hid (fD Ka f (by decide));obtain⟨kd,Lu⟩:=xq (F[j]);obtain⟨x,hx⟩:=xq (wd ws (a+2+j));obtain⟨m,Ku⟩:=xq (C++me ws a j);rw[Lu] at y0 Jt;rw[hx] at x0 Jt Kw;rw[Ku] at f Ky;have Jj:Hid (C++me ws a (j+1)=m++(if some kd=some 3/\x≠0 then [min x 2048] else [])):=hid (by rw[Jt.out,<-kxs,Ku]);have hji:(j:Int)<(F.length:Int):=by omega
    have hj0:(0:Int)<=(j:Int):=by omega
    have hw3:IntKind.i64.wrap ((a:Int)+2+(j:Int))=(a:Int)+2+(j:Int):=kqv _ (by omega);have i0':(0:Int)<=(a:Int)+2+(j:Int):=by omega
    have i1':(a:Int)+2+(j:Int)<(ws.length:Int):=by omega
    have it':((a:Int)+2+(j:Int)).toNat=a+2+j:=by omega
    have hmm:m.length<=40000:=by omega
    have r:=hid f;have J:=hid B;have Jf:=hid Ka;have HXL:=hid Kw;clear Jt Lu hx Ku Mr B Ka Mj Kw;by_cases Eq:kd=3
    .have e3:((kd:Int) != 3)=false:=by rw[kqq];omega
     have e3n:(kd != 3)=false:=by rw[kqq];exact Eq
     by_cases Jk:x=0
     .have e0:((x:Int)==0)=true:=by rw[kqw];omega
      have e0n:(x==0)=true:=by rw[kqw];exact Jk
      have HY:=hid (show C++me ws a (j+1)=m by rw[Jj.out,if_neg (λh=>h.2 Jk),kzr]);clear Eq Jk Jj f;go_wp2;go_roundw
      case rel=>exact⟨j+1,by omega,by go_num,by rw[HY.out];exact r.out,J.out,⟨_,Jf.out⟩,Jl,Q⟩
      case measure=>simp[intOf];omega
     have e0:((x:Int)==0)=false:=by rw[kqj];omega
     have e0n:(x==0)=false:=by rw[kqj];exact Jk
     have HY:=hid (show C++me ws a (j+1)=m++[min x 2048] by rw[Jj.out,if_pos ⟨by rw[Eq],Jk⟩]);clear Eq Jk Jj;have Kr:=λ(z:Int) (h0:0<=z) (h1:z<=2048)=>show IntKind.i64.wrap z=z from kqv _ (by omega);have Ke:min x 2048=x/\x<=2048\/min x 2048=2048/\2048<x:=by omega
     rcases Ke with⟨O,Nw⟩|⟨O,Nw⟩
     .rw[O] at HY;have hwx:=Kr (x:Int) (by omega) (by omega);have hmin:(if (x:Int)<2048 then (x:Int) else 2048)=(x:Int):=by split<;>omega
      clear Kr O;go_wp2_with (at_builtin;refine kzk _ rfl _ _ 42 rfl W3.heap.size 3 i0 _ 1 8 underlying42 q.out.1 q.out.2.1 q.out.2.2.1 q.out.2.2.2 rfl (by decide) _ _ _ rfl (r.out.alloc _) ⟨_,0,none⟩ 1 1 [.int .i64 (x:Int)] rfl rfl (dd _ _ _) (by simp[Value.oneCell']) (by unfold maxLen;omega) (by omega) (by simp;omega) ?_;intro v1 w9 y V _;have Jz:=hid y;have N:=hid V;clear y V);go_roundw
      case rel =>
       have Ld:=N.out.size;rw[kqm] at Ld;refine⟨j+1,by omega,by go_num,by rw[HY.out,kqs,kz];exact Jz.out,(J.out.alloc _).kept N.out (.inr ?_),⟨_,(Jf.out.alloc _).kept N.out Kn.out⟩,by omega,(Q.alloc Mh _).grown N.out (by rw[kqm];omega) (λk hk=>by have:=(r.out.lt k hk).1;omega)⟩;intro h;have:=(r.out.lt wA.heap.size h.symm).1;omega
      case measure=>simp[intOf];omega
     rw[O] at HY;have hxi1:(2048:Int)<(x:Int):=by omega
     have hxi2:¬ (x:Int)<2048:=by omega
     have hxi3:¬ (x:Int)<=2048:=by omega
     have hxi4:¬ x<2048:=by omega
     have hxi5:¬ x<=2048:=by omega
     clear Kr O;go_wp2_with (at_builtin;refine kzk _ rfl _ _ 42 rfl W3.heap.size 3 i0 _ 1 8 underlying42 q.out.1 q.out.2.1 q.out.2.2.1 q.out.2.2.2 rfl (by decide) _ _ _ rfl (r.out.alloc _) ⟨_,0,none⟩ 1 1 [.int .i64 2048] rfl rfl (dd _ _ _) (by simp[Value.oneCell']) (by unfold maxLen;omega) (by omega) (by simp;omega) ?_;intro v1 w9 y V _;have Jz:=hid y;have N:=hid V;clear y V);go_roundw
     case rel =>
      have Ld:=N.out.size;rw[kqm] at Ld;refine⟨j+1,by omega,by go_num,by rw[HY.out,kqs,kz];exact Jz.out,(J.out.alloc _).kept N.out (.inr ?_),⟨_,(Jf.out.alloc _).kept N.out Kn.out⟩,by omega,(Q.alloc Mh _).grown N.out (by rw[kqm];omega) (λk hk=>by have:=(r.out.lt k hk).1;omega)⟩;intro h;have:=(r.out.lt wA.heap.size h.symm).1;omega
     case measure=>simp[intOf];omega
    have e3:((kd:Int) != 3)=true:=by rw[kqu];omega
    have e3n:(kd != 3)=true:=by rw[kqu];exact Eq
    have HY:=hid (show C++me ws a (j+1)=m by rw[Jj.out,if_neg (λh=>Eq (Option.some.inj h.1)),kzr]);clear Eq Jj f;go_wp2;go_roundw
    case rel=>exact⟨j+1,by omega,by go_num,by rw[HY.out];exact r.out,J.out,⟨_,Jf.out⟩,Jl,Q⟩
    case measure=>simp[intOf];omega
   obtain rfl:j=F.length:=by omega
   have r:=hid f;have J:=hid B;have hfs:=Nk.out;clear f B Ka;go_wp2;go_roundg (gk-1)
   case rel=>exact⟨o.set a true,C++me ws a F.length,by omega,Lp.out,by show _<=_;omega,J.out,r.out,Jl,Q⟩
   case measure=>omega
  rw[D] at cs;have Nc:=hid (I.out.old (show o[a]? = some true by
   rw[kql (by omega)] at D |-;rw[kq8] at D;rw[D]))
  have Jw:=hid B;have O:=Js.out;clear B D I;go_wp2;go_roundg (gk-1)
  case rel=>exact⟨o,C,by omega,Nc.out,by show _<=_;omega,Jw.out,Kk.out,Ma,R⟩
  case measure=>omega
 have Nf:decide ((ws.length:Int)<=(a:Int))=true:=by rw[kq0];omega
 have Lq:decide (ws.length<=a)=true:=by rw[kq0];omega
 have HV:=hid (Eg Kc.out (I.out.bad (by
  by_cases h:tb ws a=0
  .exact h
  exact absurd (rg h) Lf)))
 clear B Lf;go_wp2;go_ret2;exact⟨.inr ⟨HV.out,rfl⟩,Kg.out⟩
def qh (S:List Bool) (k:Nat):List Int:=((List.range k).filter λa=>S[a]?.getD false).map λa:Nat=>(a:Int)
theorem yy(ws:List Nat):(seenL ws).length=ws.length:=by simp[seenL]
theorem kZ(h:a<ws.length):(seenL ws)[a]?.getD false=true↔Rch ws a:=by unfold seenL;rw[kx8,kvc h];simp
theorem dV(h:aA ws=0):dU ws=qh (seenL ws) ws.length:=by
 unfold dU qh;rw[if_pos h];congr 1;refine List.filter_congr λa d=>?_;have b:=kZ (ws:=ws) (kzn.1 d);cases c:(seenL ws)[a]?.getD false
 .rw[c] at b
  simpa using b
 rw[c] at b
 simpa using b
theorem ua(h:aA ws≠0):dU ws=[]:=by unfold dU;rw[if_neg h]
theorem vN(h:ah ws≠0):aA ws=ah ws:=by unfold aA;rw[if_neg h]
end Go.Proofs.YtpcajamacpbjcaaGreat
