/- Texts laid together: RchP Hnd Hnd2 Flds Rch Rcd. -/
import Derived.Test.YtpcajamacpbjcaaGreatZKHead
import Derived.Test.YtpcajamacpbjcaaGreatZKHeap
import Derived.Deep.RegionHeld3
import Derived.Deep.DrawnRows
import Derived.Laws.OwnMore
set_option maxHeartbeats 16000000
set_option maxRecDepth 100000
set_option linter.all false
namespace Go.Proofs.YtpcajamacpbjcaaGreat
open Lib (hid)
variable {fn:Func}{seen:List Bool}{todo ws:List Nat}{xs:List Value}{B H a b c g i j k n sz x:Nat}{A:Option Addr}{p q:Tmp}{e t:TypeId}{u:Value}{W w w':World}
open Go.Proofs.Tryz
structure Sl where
 gen:Int
 used:Bool
 at_:Int
 deriving DecidableEq,Inhabited
def Sl.cells (x:Sl):List Value:=[.int .i64 x.gen,.bool x.used,.int .i64 x.at_]
theorem Sl.len(x:Sl):x.cells.length=3:=rfl
def dD (w:Nat):Sl:=⟨((w/4294967296%2147483648:Nat):Int),w/9223372036854775808==1,((w%4294967296:Nat):Int)⟩
def mP (s:Sl):Bool:=if s.used=true then decide (0<s.gen)&&(decide (128<=s.at_)&&decide (s.at_<2048)) else s.at_==0
def slAt (ws:List Nat) (i:Nat):Sl:=dD (wd ws (112+i))
def nC (ws:List Nat) (k:Nat):Prop:=∀i,i<k->mP (slAt ws i)=true
theorem nU(ws:List Nat):nC ws 0:=λi h=>absurd h (by omega)
theorem nN(h:nC ws k)(h1:mP (slAt ws k)=true):nC ws (k+1):=λi hi=>by
 rcases kq6 i k with a|a
 .exact h i a
 .have:i=k:=by omega
  subst this;exact h1
def slsOk (ws:List Nat):Bool:=(List.range 16).all λi=>mP (slAt ws i)
theorem cw(ws:List Nat):slsOk ws=true↔nC ws 16:=by unfold slsOk nC;rw[kzq];exact⟨λh i a=>h i (kzh.2 a),λh i a=>h i (kzh.1 a)⟩
theorem qG(hk:k<16)(h:mP (slAt ws k)=false):slsOk ws=false:=by
 cases a:slsOk ws with
 | false=>rfl
 | true=>rw[(cw ws).1 a k hk] at h;cases h
def slL (ws:List Nat):List Sl:=(List.range 16).map (slAt ws)
theorem el(ws:List Nat):(slL ws).length=16:=by simp[slL]
theorem lk(ws:List Nat)(h:i<(slL ws).length):(slL ws)[i]=slAt ws i:=by simp[slL]
def dC (ws:List Nat):Int:=if ak (ws.length:Int)=true then (if slsOk ws=true then 0 else 50) else 8
def eQ (ws:List Nat):List Sl:=if dC ws=0 then slL ws else []
theorem uv(h:ak (ws.length:Int)=false):dC ws=8:=by simp[dC,h]
theorem lc(h:ak (ws.length:Int)=true)(h2:slsOk ws=false):dC ws=50:=by simp[dC,h,h2]
theorem iW(h:ak (ws.length:Int)=true)(h2:slsOk ws=true):dC ws=0/\eQ ws=slL ws:=by simp[eQ,dC,h,h2]
theorem gw(w:Nat):0<=(dD w).gen/\(dD w).gen<=2147483647/\0<=(dD w).at_/\(dD w).at_<=4294967295:=by unfold dD;dsimp only;have h1:=kz1 (w/4294967296) (show 0<2147483648 by omega);have h2:=kz1 w (show 0<4294967296 by omega);omega
theorem za{s:Sl}(h:mP s=true)(hu:s.used=true):0<s.gen/\128<=s.at_/\s.at_<2048:=by
 unfold mP at h;rw[if_pos hu] at h
 simpa using h
def pV (n:Nat) (l:List Bk):List Int:=l.foldl (λt b=>if b.kind=1 then t.set b.at_.toNat (b.typ+1) else t) (List.replicate n 0)
theorem xQ{l:List Bk}(hk:k<l.length):pV n (l.take (k+1))=if l[k].kind=1 then (pV n (l.take k)).set l[k].at_.toNat (l[k].typ+1) else pV n (l.take k):=by unfold pV;rw[kqq hk,List.foldl_append];rfl
theorem qP(t:List Int)(l:List Bk):(l.foldl (λt b=>if b.kind=1 then t.set b.at_.toNat (b.typ+1) else t) t).length=t.length:=by
 induction l generalizing t with
 | nil=>rfl
 | cons b l ih=>simp only[List.foldl_cons];rw[ih];split<;>simp
theorem oK(n:Nat)(l:List Bk):(pV n l).length=n:=by unfold pV;rw[qP,kxx]
theorem Cs(l:List Bk)(t:List Int)(P:Nat->Int->Prop)(h0:∀a,(t[a]?.getD 0)=0\/P a (t[a]?.getD 0))(h1:∀b∈l,b.kind=1->P b.at_.toNat (b.typ+1))(a:Nat):
 ((l.foldl (λt b=>if b.kind=1 then t.set b.at_.toNat (b.typ+1) else t) t)[a]?.getD 0)=0\/P a ((l.foldl (λt b=>if b.kind=1 then t.set b.at_.toNat (b.typ+1) else t) t)[a]?.getD 0):=by
 induction l generalizing t with
 | nil=>exact h0 a
 | cons b l ih =>
  simp only[List.foldl_cons];refine ih _ (λa=>?_) (λx c=>h1 x (by simp[c]));split
  .rename_i hk;rw[kxe];split
   .rename_i e;subst e;split
    .right;exact h1 b (by simp) hk
    left;rfl
   exact h0 a
  exact h0 a
theorem Ds(l:List Bk)(t:List Int)(a:Nat)(ha:a<t.length)(h:(t[a]?.getD 0)≠0\/∃b∈l,b.kind=1/\b.at_.toNat=a)(hty:∀b∈l,b.kind=1->0<=b.typ):
 ((l.foldl (λt b=>if b.kind=1 then t.set b.at_.toNat (b.typ+1) else t) t)[a]?.getD 0)≠0:=by
 induction l generalizing t with
 | nil =>
  rcases h with h|⟨b,i,-⟩
  .exact h
  cases i
 | cons b l ih =>
  simp only[List.foldl_cons];refine ih _ (by split<;>simp[ha]) ?_ (λx c=>hty x (by simp[c]));by_cases d:b.kind=1
  .rw[if_pos d,kxe];by_cases e:b.at_.toNat=a
   .left;rw[if_pos e,if_pos (by omega)];have:=hty b (by simp) d;simp only[kq4,ne_eq];omega
   rw[if_neg e];rcases h with h|⟨x,c,g,f⟩
   .exact .inl h
   rcases kq0.1 c with rfl|c
   .exact absurd f e
   exact .inr ⟨x,c,g,f⟩
  rw[if_neg d];rcases h with h|⟨x,c,g,f⟩
  .exact .inl h
  rcases kq0.1 c with rfl|c
  .exact absurd g d
  exact .inr ⟨x,c,g,f⟩
def tb (ws:List Nat) (a:Nat):Int:=(pV ws.length (aa ws))[a]?.getD 0
theorem qO(h:tb ws a≠0):a<ws.length:=by
 rcases kq6 a ws.length with b|b
 .exact b
 unfold tb at h;rw[kzg (by rw[oK];exact b)] at h;exact absurd rfl h
def eg (ws:List Nat) (a:Nat):Prop:=128<=a/\a%2=0/\a<ws.length/\stands ws a=true/\(ah (wd ws a)).kind=1/\dA ws (bkAt ws a)=true/\∃k,∃h:k<(aa ws).length,(aa ws)[k]=bkAt ws a/\blocks ws a=some ((aa ws).drop k)
theorem lw(h:ag ws=0)(hk:k<(aa ws).length)(h1:(aa ws)[k].kind=1):∃a,(aa ws)[k]=bkAt ws a/\eg ws a:=by obtain⟨hs,l,e,c,j⟩:=al h;subst j;obtain⟨a,b,m,g,d,f,i⟩:=bC _ _ e (by omega) k hk;refine⟨a,b,g,m,d,f,by rw[b] at h1;exact h1,?_,k,hk,b,i⟩;rw[kzq] at c;rw[<-b];exact c _ (kqs hk)
theorem gO(h:ag ws=0)(ht:tb ws a≠0):eg ws a/\tb ws a=(ah (wd ws a)).typ+1:=by
 have d:=Cs (aa ws) (List.replicate ws.length 0) (λa v=>eg ws a/\v=(ah (wd ws a)).typ+1) (λa=>.inl (by
  rw[kj4];split<;>rfl)) (λb e f=>by
  obtain⟨k,c,rfl⟩:=kqv e;obtain⟨a,g,i⟩:=lw h c f;rw[g];have:(bkAt ws a).at_.toNat=a:=by rw[ab,kqj]
  rw[this];exact⟨i,rfl⟩) a
 exact d.resolve_left ht
theorem obj_tb(h:ag ws=0)(ho:eg ws a):tb ws a=(ah (wd ws a)).typ+1/\tb ws a≠0:=by
 obtain⟨h1,h2,n,h4,j,h6,k,i,e,h8⟩:=ho;have c:tb ws a≠0:=by unfold tb pV;refine Ds _ _ _ (by rw[kxx];exact n) (.inr ⟨_,kqs i,by rw[e];exact j,by rw[e,ab,kqj]⟩) (λb g d=>?_);obtain⟨m,l,rfl⟩:=kqv g;obtain⟨a',f,e2⟩:=lw h l d;rw[f];show 0<=((_:Nat):Int);omega
 exact⟨(gO h c).2,c⟩
def flds (ws:List Nat) (a:Nat):List Nat:=bc (wd ws (96+2*(ah (wd ws a)).typ.toNat)) (wd ws (96+2*(ah (wd ws a)).typ.toNat+1))
theorem rE(ws:List Nat)(a:Nat):(flds ws a).length<=8:=jA _ _
theorem nh(h:eg ws a)(hi:i<(flds ws a).length):a+2+i<ws.length:=by
 obtain⟨h1,h2,h3,j,g,f,-⟩:=h;have hs:=ax j;have e:dA ws (bkAt ws a)=db ws (bkAt ws a):=by
  unfold dA;have:((bkAt ws a).kind != 1)=false:=by rw[kqp];exact g
  rw[this,Bool.false_or]
 have c:=gI (ws:=ws) (b:=bkAt ws a) g;rw[e] at f;rw[e,f] at c;have c:=c.symm;simp only[kqw,kqu] at c;have d:=c.2;rw[aP] at d;have h8:(flds ws a).length=(bc (wd ws (tyA (bkAt ws a))) (wd ws (tyA (bkAt ws a)+1))).length:=rfl;unfold aX at d;omega
inductive Rch (ws:List Nat):Nat->Prop
 | slot (i:Nat) (hi:i<16) (hu:(slAt ws i).used=true):Rch ws (slAt ws i).at_.toNat
 | ref (a i:Nat) (ha:Rch ws a) (ht:tb ws a≠0) (hi:(flds ws a)[i]? = some 3) (hv:wd ws (a+2+i)≠0):Rch ws (min (wd ws (a+2+i)) 2048)
def rz (ws:List Nat):Prop:=∀a,Rch ws a->tb ws a≠0
def mj (ws:List Nat) (a:Nat) (j:Nat):List Nat:=(List.range j).filterMap λi=>if (flds ws a)[i]? = some 3/\wd ws (a+2+i)≠0 then some (min (wd ws (a+2+i)) 2048) else none
theorem xx(ws:List Nat)(a j:Nat):mj ws a (j+1)=mj ws a j++(if (flds ws a)[j]? = some 3/\wd ws (a+2+j)≠0 then [min (wd ws (a+2+j)) 2048] else []):=by unfold mj;rw[kj1,kk0];congr 1;simp only[kk9,kvc];split<;>simp_all
theorem Bw(ws:List Nat)(a j:Nat):(mj ws a j).length<=j:=by unfold mj;have:=kkp (λi=>if (flds ws a)[i]? = some 3/\wd ws (a+2+i)≠0 then some (min (wd ws (a+2+i)) 2048) else none) (List.range j);rwa [kkc] at this
theorem Az(h:x∈mj ws a j):∃i,(flds ws a)[i]? = some 3/\wd ws (a+2+i)≠0/\x=min (wd ws (a+2+i)) 2048:=by
 unfold mj at h;rw[kjj] at h;obtain⟨i,-,b⟩:=h;split at b
 .rename_i h3;injection b with b;exact⟨i,h3.1,h3.2,b.symm⟩
 cases b
theorem Au(h1:(flds ws a)[i]? = some 3)(h2:wd ws (a+2+i)≠0):min (wd ws (a+2+i)) 2048∈mj ws a (flds ws a).length:=by unfold mj;rw[kjj];refine⟨i,kzh.2 (kzc.1 h1).1,?_⟩;rw[if_pos ⟨h1,h2⟩]
structure Wk (ws:List Nat) (seen:List Bool) (todo:List Nat):Prop where
 hlen:seen.length=ws.length
 htodo:∀a∈todo,Rch ws a
 hseen:∀a,seen[a]? = some true->Rch ws a/\tb ws a≠0
 hslot:∀i,i<16->(slAt ws i).used=true->(slAt ws i).at_.toNat∈todo\/seen[(slAt ws i).at_.toNat]? = some true
 href:∀a i,seen[a]? = some true->(flds ws a)[i]? = some 3->wd ws (a+2+i)≠0->min (wd ws (a+2+i)) 2048∈todo\/seen[min (wd ws (a+2+i)) 2048]? = some true
theorem Wk.bad(h:Wk ws seen (todo++[a]))(h0:tb ws a=0):¬ rz ws:=λb=>b a (h.htodo a (by simp)) h0
theorem Wk.old(h:Wk ws seen (todo++[a]))(h1:seen[a]? = some true):Wk ws seen todo:=by
 have c:∀x,x∈todo++[a]\/seen[x]? = some true->x∈todo\/seen[x]? = some true:=by
  intro x b;rcases b with b|b
  .rcases kzt.1 b with b|b
   .exact .inl b
   rw[kq7] at b;subst b;exact .inr h1
  exact .inr b
 exact⟨h.hlen,λx b=>h.htodo x (by simp[b]),h.hseen,λi d g=>c _ (h.hslot i d g),λx i b e f=>c _ (h.href x i b e f)⟩
theorem Wk.new_(h:Wk ws seen (todo++[a]))(h0:tb ws a≠0):Wk ws (seen.set a true) (todo++mj ws a (flds ws a).length):=by
 have l:=h.hlen;have g:=qO h0;have c:∀x,(seen.set a true)[x]? = some true↔x=a\/seen[x]? = some true:=by
  intro x;rw[kxe];by_cases e:a=x
  .subst e;simp[l,g]
  rw[if_neg e];constructor
  .exact .inr
  rintro (j|j)
  .exact absurd j.symm e
  exact j
 have f:∀x,x∈todo++[a]\/seen[x]? = some true->x∈todo++mj ws a (flds ws a).length\/(seen.set a true)[x]? = some true:=by
  intro x b;rw[c];rcases b with b|b
  .rcases kzt.1 b with b|b
   .exact .inl (by simp[b])
   rw[kq7] at b;exact .inr (.inl b)
  exact .inr (.inr b)
 have d:Rch ws a:=h.htodo a (by simp);refine⟨by rw[kza];exact l,λx b=>?_,λx b=>?_,λi n q=>f _ (h.hslot i n q),λx i b k m=>?_⟩
 .rcases kzt.1 b with b|b
  .exact h.htodo x (by simp[b])
  obtain⟨i,o,p,rfl⟩:=Az b;exact Rch.ref a i d h0 o p
 .rcases (c x).1 b with rfl|b
  .exact ⟨d,h0⟩
  exact h.hseen x b
 rcases (c x).1 b with rfl|b
 .exact .inl (by rw[kzt];exact .inr (Au k m))
 exact f _ (h.href x i b k m)
theorem Wk.end_(h:Wk ws seen []):rz ws/\∀a,seen[a]? = some true↔Rch ws a:=by
 have b:∀a,Rch ws a->seen[a]? = some true:=by
  intro a c
  induction c with
  | slot i hi hu=>exact (h.hslot i hi hu).resolve_left (by simp)
  | ref a i c ht hi hv ih=>exact (h.href a i ih hi hv).resolve_left (by simp)
 exact⟨λa c=>(h.hseen a (b a c)).2,λa=>⟨λd=>(h.hseen a d).1,b a⟩⟩
def un (ws:List Nat) (k:Nat):List Nat:=(List.range k).filterMap λi=>if (slAt ws i).used=true then some (slAt ws i).at_.toNat else none
theorem y9(ws:List Nat)(k:Nat):un ws (k+1)=un ws k++(if (slAt ws k).used=true then [(slAt ws k).at_.toNat] else []):=by unfold un;rw[kj1,kk0];congr 1;simp only[kk9,kvc];split<;>simp_all
theorem sS(ws:List Nat)(k:Nat):(un ws k).length<=k:=by unfold un;have:=kkp (λi=>if (slAt ws i).used=true then some (slAt ws i).at_.toNat else none) (List.range k);rwa [kkc] at this
theorem Wk.start(ws:List Nat):Wk ws (List.replicate ws.length false) (un ws 16):=by
 have c:∀a:Nat,(List.replicate ws.length false)[a]? ≠ some true:=by intro a;rw[kj4];split<;>simp
 refine⟨kxx,λa b=>?_,λa b=>absurd b (c a),λi e f=>.inl ?_,λa i b=>absurd b (c a)⟩
 .unfold un at b;rw[kjj] at b;obtain⟨i,e,d⟩:=b;split at d
  .rename_i h3;injection d with d;subst d;exact Rch.slot i (kzh.1 e) h3
  cases d
 unfold un;rw[kjj];exact⟨i,kzh.2 e,by rw[if_pos f]⟩
open Classical in
noncomputable def aF (ws:List Nat):Int:=if ag ws=0 then (if slsOk ws=true then (if rz ws then 0 else 50) else 50) else ag ws
open Classical in
noncomputable def seenL (ws:List Nat):List Bool:=(List.range ws.length).map λa=>decide (Rch ws a)
open Classical in
noncomputable def dY (ws:List Nat):List Int:=if aF ws=0 then ((List.range ws.length).filter λa=>decide (Rch ws a)).map (λa:Nat=>(a:Int)) else []
theorem Wk.seenL(h:Wk ws seen []):seen=seenL ws:=by
 have g:=h.end_.2;apply kx9;intro a;unfold Proofs.YtpcajamacpbjcaaGreat.seenL;by_cases d:a<ws.length
 .have b:a<seen.length:=by rw[h.hlen];exact d
  rw[kxd,kva d,kqm b];simp only[kzp,Option.some.injEq];have:=g a;rw[kqm b,Option.some.injEq] at this;cases c:seen[a] with
  | true=>rw[c] at this;simp[this.1 rfl]
  | false =>
   rw[c] at this;have f:¬ Rch ws a:=λe=>by have:=this.2 e;cases this
   simp[f]
 rw[kzg (by rw[h.hlen];omega),kzg (by simp;omega)]
def na (l:List Bool):Nat:=(l.filter (! ·)).length
theorem uS{l:List Bool}(h:l[a]? = some false):na (l.set a true)+1=na l:=by
 induction l generalizing a with
 | nil=>simp at h
 | cons b l ih =>
  cases a with
  | zero =>simp only[List.getElem?_cons_zero,Option.some.injEq] at h;subst h;simp[na]
  | succ a =>simp only[List.getElem?_cons_succ] at h;have:=ih h;unfold na at this |-;cases b<;>simp_all<;>omega
open Go.RowKit
def Sl.val (x:Sl):Value:=.agg #[.int .i64 x.gen,.bool x.used,.int .i64 x.at_]
theorem tG(g:Int)(u:Bool)(a:Int)(w:World)(h1:0<=g)(h2:g<=2147483647):
 Calls prog 171 #[.agg #[.int .i64 g,.bool u,.int .i64 a]] w λe w'=>e=.returned (.bool (mP ⟨g,u,a⟩))/\Below w.heap.size w w':=by
 have d:=(kqk w.heap.size w).alloc (kqb _) (.cells #[.int .i64 g,.bool u,.int .i64 a] 52);have f:=hid d;have d1:decide (g<0)=false:=by rw[kqc];omega
 have d2:decide (2147483647<g)=false:=by rw[kqc];omega
 clear d;cases u
 .have H:Hid (mP ⟨g,false,a⟩=(a==0)):=hid rfl;go_enter func171,ntmps171;go_wp2;go_ret;exact⟨by rw[H.out];rfl,f.out⟩
 have H:Hid (∀b:Bool,b=(decide (0<g)&&(decide (128<=a)&&decide (a<2048)))->mP ⟨g,true,a⟩=b):=hid λb h=>by rw[h];rfl
 have c:(∃b,decide (0<g)=b)/\(∃b,decide (128<=a)=b)/\∃b,decide (a<2048)=b:=⟨⟨_,rfl⟩,⟨_,rfl⟩,⟨_,rfl⟩⟩;obtain⟨⟨o,k⟩,⟨m,n⟩,⟨j,l⟩⟩:=c;have i:=hid (H.out _ rfl);rw[k,n,l] at i;clear H h1 h2;cases o<;>cases m<;>cases j
 all_goals
  go_enter func171,ntmps171;go_wp2;go_ret;exact⟨by rw[i.out];rfl,f.out⟩
def slB (x:Nat):Sl:=if mP (dD x)=true then dD x else ⟨0,false,0⟩
def vr (x:Nat):Int:=if mP (dD x)=true then 0 else 50
theorem wo(h:mP (dD x)=true):slB x=dD x/\vr x=0:=by simp[slB,vr,h]
theorem ul(h:mP (dD x)=false):slB x=⟨0,false,0⟩/\vr x=50:=by simp[slB,vr,h]
theorem jF(h:fn.results=#[.cell p 52,.tmp q])(tmps:Array Value){v0 v1 v2:Value}(hb:Bx W g t #[v0,v1,v2])(hp:tmps.getD p undef=.pointer (some ⟨g,0,none⟩))(hq:tmps.getD q undef=u):
 (results fn tmps).run prog W=.ok (.tuple #[.agg #[v0,v1,v2],u]) W:=by obtain⟨a,c,b,-⟩:=hb.c3;rw[kxl] at hp hq;simp[results,h,hp,hq,go_sem,a,c,b]
theorem Ex(x:Nat)(hx:x<18446744073709551616):bits BinOp.and .u64 ((x:Int)/4294967296) 2147483647=((x/4294967296%2147483648:Nat):Int)/\bits BinOp.and .u64 (x:Int) 4294967295=((x%4294967296:Nat):Int) /\
 (((x:Int)/9223372036854775808)==1)=(x/9223372036854775808==1):=by
 refine⟨?_,r8 (k:=32) (m:=4294967295) hx rfl (by omega),?_⟩
 .have a:x/4294967296<18446744073709551616:=by omega
  have h:=r8 (k:=31) (m:=2147483647) a rfl (by omega);exact h
 rw[kzk,kqu,kqu];omega
theorem Cq(x:Nat)(w:World)(hx:x<18446744073709551616):
 Calls prog 111 #[.int .u64 (x:Int)] w λe w'=>e=.returned (.tuple #[(slB x).val,.int .i64 (vr x)])/\Below w.heap.size w w':=by
 obtain⟨r,z,t⟩:=Ex x hx;obtain⟨o,n,A,p⟩:=gw x;have i:=hid (λh=>wo (x:=x) h);have d:=hid (λh=>ul (x:=x) h);have b:=hid (λW=>tG (dD x).gen (dD x).used (dD x).at_ W o n);have hx0:(0:Int)<=(x:Int):=by omega
 have I:((x/4294967296%2147483648:Nat):Int)=(dD x).gen:=rfl;have H:((x%4294967296:Nat):Int)=(dD x).at_:=rfl;have D:(x/9223372036854775808==1)=(dD x).used:=rfl;rw[I] at r;rw[H] at z;rw[D] at t;clear I H D hx;obtain⟨s,F⟩:=xq (dD x);rw[F] at r z t o n A p b i d;obtain⟨g,u,a⟩:=s;dsimp only at r z t o n A p b;have w1:IntKind.i64.wrap g=g:=kqo _ (by omega);have w2:IntKind.i64.wrap a=a:=kqo _ (by omega);have B:=Bx.new w 52 #[.int .i64 0,.bool false,.int .i64 0];have C:=hid (B.alloc (.cells #[.int .i64 g,.bool u,.int .i64 a] 52));have y:=Bx.new (w.alloc (.cells #[.int .i64 0,.bool false,.int .i64 0] 52)) 52 #[.int .i64 g,.bool u,.int .i64 a];rw[kqn] at y;have E:=hid y;have G:=hid (((kqk w.heap.size w).alloc (kqb _) (.cells #[.int .i64 0,.bool false,.int .i64 0] 52)).alloc (aH (kqb _)) (.cells #[.int .i64 g,.bool u,.int .i64 a] 52));obtain⟨q,J⟩:∃q,mP ⟨g,u,a⟩=q:=⟨_,rfl⟩;rw[J] at b i d;clear B y F J o n A p;go_enter func111,ntmps111;go_wp2_with fail;refine (b.out _).mono ?_;rintro e w3 ⟨rfl,c⟩;have f:=C.out.up c C.out.lt;have l:=E.out.up c E.out.lt;have j:=hid (G.out.trans (c.mono G.out.size));obtain⟨p0,p1,p2,f0,f1,f2,hg0⟩:=f.c3;obtain⟨n0,n1,n2,-⟩:=l.c3;have k:=hid f;clear f l c;cases q
 .have m:=hid (d.out rfl);go_wp2_with fail;exact kqr (v:=.tuple #[.agg #[.int .i64 0,.bool false,.int .i64 0],.int .i64 50]) (jF results111 _ (((k.out.set_ 0 _).set_ 1 _).set_ 2 _) rfl rfl) rfl ⟨by rw[m.out.1,m.out.2];rfl,((j.out.setCell (kqb _) _).setCell (kqb _) _).setCell (kqb _) _⟩
 have m:=hid (i.out rfl);go_wp2_with fail;exact kqr (v:=.tuple #[.agg #[.int .i64 g,.bool u,.int .i64 a],.int .i64 0]) (jF results111 _ (((k.out.set_ 0 _).set_ 1 _).set_ 2 _) rfl rfl) rfl ⟨by rw[m.out.1,m.out.2];rfl,((j.out.setCell (kqb _) _).setCell (kqb _) _).setCell (kqb _) _⟩
def noSl:Sl:=⟨0,false,0⟩
def kx (ws:List Nat) (k:Nat):List Sl:=(List.range 16).map λi=>if i<k then slAt ws i else noSl
def gR (l:List Sl):Array Value:=(l.flatMap Sl.cells).toArray
theorem iV(ws:List Nat)(k:Nat):(kx ws k).length=16:=by simp[kx]
theorem mN(ws:List Nat)(k j:Nat)(hj:j<16):(kx ws k)[j]? = some (if j<k then slAt ws j else noSl):=by simp[kx,hj]
theorem vQ(ws:List Nat)(k:Nat)(hk:k<16):kx ws (k+1)=(kx ws k).set k (slAt ws k):=by
 apply kx9;intro j;rw[kxe];by_cases a:j<16
 .rw[mN _ _ _ a,mN _ _ _ a];by_cases e:k=j
  .subst e;rw[if_pos (show k<k+1 by omega),if_pos rfl,if_pos (by rw[iV];exact hk)]
  rw[if_neg e];by_cases h:j<k
  .rw[if_pos h,if_pos (by omega)]
  rw[if_neg h,if_neg (by omega)]
 rw[kzg (by rw[iV];omega),if_neg (by omega),kzg (by rw[iV];omega)]
theorem vg(ws:List Nat):kx ws 0=List.replicate 16 noSl:=by
 apply kx9;intro j;by_cases a:j<16
 .rw[mN _ _ _ a,if_neg (by omega),kj4,if_pos a]
 rw[kzg (by rw[iV];omega),kzg (by simp;omega)]
theorem wW(ws:List Nat):kx ws 16=slL ws:=by unfold kx slL;apply kz8;intro i a;rw[if_pos (kzh.1 a)]
theorem sl_set(l:List Sl)(k:Nat)(x:Sl):(l.set k x).flatMap Sl.cells=(((l.flatMap Sl.cells).set (k*3) (.int .i64 x.gen)).set (k*3+1) (.bool x.used)).set (k*3+2) (.int .i64 x.at_):=by
 have d:=fi Sl.cells 3 Sl.len l k 0 (by omega) ⟨x.gen,(l[k]?.getD default).used,(l[k]?.getD default).at_⟩ (.int .i64 x.gen) (λy a=>by rw[a];rfl);have c:=fi Sl.cells 3 Sl.len (l.set k ⟨x.gen,(l[k]?.getD default).used,(l[k]?.getD default).at_⟩) k 1 (by omega) ⟨x.gen,x.used,(l[k]?.getD default).at_⟩ (.bool x.used) (λy a=>by
  rw[kxe] at a;simp only[if_true] at a;split at a
  .cases a;rfl
  cases a)
 have b:=fi Sl.cells 3 Sl.len (l.set k ⟨x.gen,x.used,(l[k]?.getD default).at_⟩) k 2 (by omega) x (.int .i64 x.at_) (λy a=>by
  rw[kxe] at a;simp only[if_true] at a;split at a
  .cases a;rfl
  cases a)
 rw[List.set_set] at c b;rw[b,c,d];rfl
theorem yI(l:List Sl)(k:Nat)(x:Sl):(((gR l).setIfInBounds (k*3) (.int .i64 x.gen)).setIfInBounds (k*3+1) (.bool x.used)).setIfInBounds (k*3+2) (.int .i64 x.at_)=gR (l.set k x):=by unfold gR;rw[sl_set];simp
theorem ic(l:List Sl):(gR l).size=l.length*3:=by unfold gR;rw[kjy,bY Sl.cells 3 Sl.len]
theorem Sl.one(x:Sl):∀u∈x.cells,u.oneCell'=true:=by intro u a;simp only[Sl.cells,kq0,kzs,or_false] at a;rcases a with rfl|rfl|rfl<;>rfl
theorem kj(l:List Sl):(gR l).all (·.oneCell')=true:=by unfold gR;rw[List.all_toArray,kzq];exact cn Sl.one l
def bQ:Array Value:=gR (List.replicate 16 noSl)
theorem gb:bQ.size=48:=by unfold bQ;rw[ic,kxx]
theorem ll:bQ.all (·.oneCell')=true:=kj _
theorem mu(w:World):(zeroValue 118).run prog w=.ok (.agg bQ) w:=by kernel_rfl
theorem DK(w:World):(Instr.build 118 #[]).run prog w=.ok (.agg bQ) w:=by kernel_rfl
theorem jU:(prog.info? 118).map (·.size)=some 48:=by kernel_rfl
theorem kW(l:List Sl)(h:j<l.length*3):∃u,(gR l)[j]? = some u:=by have:=ic l;exact⟨_,Array.getElem?_eq_getElem (by omega)⟩
theorem jO(h:fn.results=#[.cell p 118,.tmp q])(tmps:Array Value){cs:Array Value}(hb:Bx W g t cs)(hs:cs.size=48)(hp:tmps.getD p undef=.pointer (some ⟨g,0,none⟩))(hq:tmps.getD q undef=u):
 (results fn tmps).run prog W=.ok (.tuple #[.agg cs,u]) W:=by
 have a:tmps[p]?.getD undef=.pointer (some ⟨g,0,none⟩):=by simpa using hp
 have b:tmps[q]?.getD undef=u:=by simpa using hq
 have d:(prog.info? 118).map (·.size)=some cs.size:=by rw[hs];exact jU
 have c:=run_loadVar_row W g t 118 cs (0,0) _ hb underlying118 rfl d;simp[results,h,a,b,asAddr,c]
def opV (ws:List Nat):Value:=.agg (if dC ws=0 then gR (slL ws) else bQ)
theorem Er(h:dC ws=0):opV ws=.agg (gR (slL ws)):=by simp[opV,h]
theorem B6(h:dC ws≠0):opV ws=.agg bQ:=by simp[opV,h]
theorem yS(A:Option Addr)(ws:List Nat)(c n:Nat)(w:World)(hn:ws.length=n)(hm:n<=9223372036854775807)(hr:RdW w w.heap.size A ws)(ho:∀x∈ws,x<18446744073709551616):
 Calls prog 64 #[.slice A n c] w λe w'=>e=.returned (.tuple #[opV ws,.int .i64 (dC ws)])/\Below w.heap.size w w':=by
 subst hn;have HR:=hid hr;have Fs:Hid (∀k,wd ws k<18446744073709551616):=hid (eX ho);have hzv:=mu;have hbv:=DK;have t:=gb;have Eq:=hid ll;have o:=jU;have b0:=Bx.new w 118 bQ;have B:=(kqk w.heap.size w).alloc (kqb _) (.cells bQ 118);clear hr ho;cases E:ak (ws.length:Int)
 .have HI:=hid (bJ E);have N:=uv E;have C:=hid (And.intro N (B6 (by rw[N];omega)));have L:=hid b0;have K:=hid B;rw[<-t] at o;have p:=o;clear E N b0 B o;go_enter func64,ntmps64;go_wp2_with fail;refine (aJ A ws.length c _ hm).mono ?_;rintro e w1 ⟨rfl,rfl⟩;rw[HI.out];go_wp2_with (first
   | ((with_reducible refine bq 118 (.tmp 2) _ ?_);refine ai rfl _ _ _ rfl w.heap.size 118 bQ bQ (by rfl) (by rfl) L.out rfl p Eq.out ?_;intro w3 X Y;have g:=hid X;have Fp:=hid Y;clear X Y))
  exact kqr (v:=.tuple #[.agg bQ,.int .i64 8]) (jO results64 _ g.out t rfl rfl) rfl ⟨by rw[C.out.1,C.out.2],Fp.out.below K.out (kqb _)⟩
 have HI:=hid (aW E);obtain⟨hb1,hb2,-⟩:=de ws E;have HS:=hid E;obtain⟨b,off,rfl,hb,-⟩:=RdW.at_ HR.out (show 0<ws.length by omega);have Fr:Hid (∀k (h:k<ws.length) (W:World),Below w.heap.size w W->W.cell? ⟨b,off+k,none⟩=some (.int .u64 (wd ws k:Int))):=hid λk h W P=>by
  obtain⟨b',off',e',-,h0⟩:=RdW.at_ (Rd.below HR.out P) h;cases e';rw[<-bI] at h0;exact h0
 have L:=hid b0;have K:=hid B;rw[<-t] at o;have p:=o;clear E b0 B o;go_enter func64,ntmps64;go_wp2_with fail;refine (aJ _ ws.length c _ hm).mono ?_;rintro e w1 ⟨rfl,rfl⟩;rw[HI.out];go_wp2_with fail;go_loopw [15] (λi wr=>∃k:Nat,k<=16/\i=.int .i64 k/\Hid (nC ws k)/\Bx wr w.heap.size 118 bQ/\Bx wr (w.heap.size+1) 118 (gR (kx ws k))/\Below w.heap.size w wr) (λi _=>16-(intOf i).toNat)
 case atStart =>
  have x1:=Bx.new (w.alloc (.cells bQ 118)) 118 bQ;rw[kqn] at x1;exact⟨0,kqx _,rfl,nU ws,L.out.alloc _,by rw[vg];exact x1,K.out.alloc (by simp) _⟩
 obtain⟨k,hk,rfl,U,q0,I,P⟩:=hrel;have hz:=P.size;have V:=hid q0;have Q1:=hid I;by_cases T:k<16
 .have h0:=Fr.out (112+k) (by omega) _ P;have a:=hid (λW=>Cq (wd ws (112+k)) W (Fs.out _));have D:=hid (λh=>nN U.out h);have Q:=hid (λh=>lc HS.out (qG T h));have m:dD (wd ws (112+k))=slAt ws k:=rfl;have Fq:=hid (vQ ws k T);have hsz:=iV ws k;obtain⟨u0,R⟩:=kW (kx ws k) (j:=k*3) (by omega);obtain⟨u1,J⟩:=kW (kx ws k) (j:=k*3+1) (by omega);obtain⟨u2,M⟩:=kW (kx ws k) (j:=k*3+2) (by omega);have i1:(0:Int)<=112+(k:Int):=by omega
  have i2:(112:Int)+(k:Int)<(ws.length:Int):=by omega
  have n1:((112:Int)+(k:Int)).toNat=112+k:=by omega
  have hk1:(k:Int)<16:=by omega
  have hk0:(0:Int)<=(k:Int):=by omega
  obtain⟨x,hx⟩:=xq (wd ws (112+k));rw[hx] at h0 a m;cases d:mP (slAt ws k)
  .have N:=Q.out d;have C:=hid (And.intro N (B6 (by rw[N];omega)));rw[<-m] at d;rw[(ul d).1,(ul d).2] at a;unfold Sl.val at a;dsimp only at a;clear hx d N m Q D q0 I R J M;go_wp2_with fail;refine (a.out _).mono ?_;rintro e w3 ⟨rfl,f⟩;have q:=hid (V.out.up f V.out.lt);have g:=hid (P.trans (f.mono hz));clear f;go_wp2_with (first
    | ((with_reducible refine bq 118 (.tmp 2) _ ?_);refine ai rfl _ _ _ rfl w.heap.size 118 bQ bQ (by rfl) (by rfl) (q.out.alloc _) rfl p Eq.out ?_;intro w4 r u;have H:=hid r;have G:=hid u;clear r u))
   exact kqr (v:=.tuple #[.agg bQ,.int .i64 50]) (jO results64 _ H.out t rfl rfl) rfl ⟨by rw[C.out.1,C.out.2],G.out.below (g.out.alloc g.out.size _) (kqb _)⟩
  have S:=hid (D.out d);rw[<-m] at d;rw[(wo d).1,(wo d).2,m] at a;have y:=yI (kx ws k) k (slAt ws k);rw[<-Fq.out] at y;have z:=hid y;obtain⟨s,Z⟩:=xq (slAt ws k);rw[Z] at a z;obtain⟨sg,su,sa⟩:=s;unfold Sl.val at a;dsimp only at a z;clear hx d m Z y Q D q0 I;go_wp2_with fail;refine (a.out _).mono ?_;rintro e w3 ⟨rfl,f⟩;have q:=Q1.out.up f Q1.out.lt;have Q3:=hid q;have Q4:=hid (V.out.up f V.out.lt);have hg3:=q.lt;have d0:=(q.cell (k*3)).trans R;have d1:=(q.cell (k*3+1)).trans J;have d2:=(q.cell (k*3+2)).trans M;have f0:=q.frozen (k*3);have f1:=q.frozen (k*3+1);have f2:=q.frozen (k*3+2);have g:=hid (P.trans (f.mono hz));clear f q R J M;go_wp2;go_roundw
  case rel =>
   refine⟨k+1,by omega,by go_num,S.out,(((Q4.out.far (by simp) _).far (by simp) _).far (by simp) _).alloc _,?_,(((g.out.setCell (by simp) _).setCell (by simp) _).setCell (by simp) _).alloc (by simpa using g.out.size) _⟩;rw[<-z.out];exact (((Q3.out.set_ (k*3) _).set_ (k*3+1) _).set_ (k*3+2) _).alloc _
  case measure=>simp[intOf];omega
 obtain rfl:k=16:=by omega
 have O:=iW HS.out ((cw ws).2 U.out);have C:=hid (And.intro O.1 (Er O.1));rw[wW] at I;have l:(gR (slL ws)).size=48:=by rw[ic,el]
 obtain⟨cs,F⟩:=xq (gR (slL ws));have h1:cs.all (·.oneCell')=true:=by rw[<-F];exact kj _
 have H1:=hid h1;rw[F] at I C l;have Q5:=hid I;have Fo:(prog.info? 118).map (·.size)=some cs.size:=by rw[l];exact jU
 have Ft:cs.size=bQ.size:=by rw[l,t]
 clear q0 I O F h1;go_wp2_with (first
  | ((with_reducible refine fF 118 (.tmp 5) ?_);refine kxg rfl _ _ rfl (w.heap.size+1) (by rfl) 118 cs (0,0) _ Q5.out underlying118 (by rfl) Fo ?_)
  | ((with_reducible refine bq 118 (.tmp 2) _ ?_);refine ai rfl _ _ _ rfl w.heap.size 118 bQ cs (by rfl) (by rfl) V.out Ft Fo H1.out ?_;intro w4 r u;have H:=hid r;have G:=hid u;clear r u))
 exact kqr (v:=.tuple #[.agg cs,.int .i64 0]) (jO results64 _ H.out l rfl rfl) rfl ⟨by rw[C.out.1,C.out.2],G.out.below P (kqb _)⟩
theorem Rd.of_box{cs:Array Value}(h:Bx w g t cs)(hg:g<B):Rd w B (some ⟨g,0,none⟩) cs.toList:=λ_ =>
 ⟨g,0,rfl,hg,λj hj=>by
  rw[kx5,h.cell j]
  simp⟩
def RdS (w:World) (B:Nat) (A:Option Addr) (l:List Sl):Prop:=Rd w B A (l.flatMap Sl.cells)
theorem RdS.at_{l:List Sl}(h:RdS w B A l)(hk:k<l.length):
 ∃b a,A=some ⟨b,a,none⟩/\b<B/\w.cell? ⟨b,a+k*3,none⟩=some (.int .i64 l[k].gen)/\w.cell? ⟨b,a+k*3+1,none⟩=some (.bool l[k].used)/\w.cell? ⟨b,a+k*3+2,none⟩=some (.int .i64 l[k].at_):=by obtain⟨b,a,e,d,c⟩:=Rd.at_flat Sl.len h (by omega) hk;exact⟨b,a,e,d,c 0 (by omega),c 1 (by omega),c 2 (by omega)⟩
def Dl (ws:List Nat) (e:Ending) (w':World):Prop:=∃A c,e=.returned (.tuple #[.slice A (eQ ws).length c,.int .i64 (dC ws)])/\RdS w' w'.heap.size A (eQ ws)/\(eQ ws).length<=c
theorem CN(A:Option Addr)(ws:List Nat)(c n:Nat)(w:World)(hn:ws.length=n)(hm:n<=9223372036854775807)(s:RdW w w.heap.size A ws)(ho:∀x∈ws,x<18446744073709551616):
 Calls prog 25 #[.slice A n c] w λe w'=>Dl ws e w'/\Below w.heap.size w w':=by
 have j:=hid (yS A ws c n w hn hm s ho);clear s ho hn hm;have o:=gb;by_cases h:dC ws=0
 .have b:eQ ws=slL ws:=by simp[eQ,h]
  have i:=hid (And.intro h b);have E:=el ws;rw[h,Er h] at j;have d:(gR (slL ws)).size=48:=by rw[ic,el]
  obtain⟨l,u⟩:=xq (slL ws);rw[u] at d j E i;have C:Hid (gR l=(l.flatMap Sl.cells).toArray):=hid rfl;have H:=hid (kj l);have I:=hid E;obtain⟨cs,B⟩:=xq (gR l);rw[B] at j d C H;have p:(prog.info? 118).map (·.size)=some cs.size:=by rw[d];exact jU
  clear h b u B E o;go_enter func25,ntmps25;go_wp2_with fail;refine j.out.mono ?_;rintro e t ⟨rfl,a⟩;have D:=mu;have F:cs.size=bQ.size:=by rw[d,gb]
  have v:=Bx.new t 118 bQ;have G:=hid v;have q:=hid (a.alloc a.size (.cells bQ 118));have m:=a.size;clear v a;go_wp2_with (first
   | ((with_reducible refine bq 118 (.tmp 4) _ ?_);refine ai rfl _ _ _ rfl t.heap.size 118 bQ cs (by rfl) (by rfl) G.out F p H.out ?_;intro K g f;have y:=hid g;have k:=hid (f.below q.out m);clear g f))
  go_ret2;refine⟨⟨some ⟨t.heap.size,0,none⟩,16,by rw[i.out.1,i.out.2,I.out];rfl,?_,by rw[i.out.2,I.out];omega⟩,k.out⟩;rw[i.out.2];have:=y.out;rw[C.out] at this;exact Rd.of_box this this.lt
 have b:eQ ws=[]:=by simp[eQ,h]
 have i:=hid b;rw[B6 h] at j;obtain⟨r,s⟩:=xq (dC ws);have J:=hid s;rw[s] at j h;have hrn:(r != 0)=true:=by rw[kqt];exact h
 have m:=hid ll;have p:(prog.info? 118).map (·.size)=some bQ.size:=by rw[o];exact jU
 clear h b s o;go_enter func25,ntmps25;go_wp2_with fail;refine j.out.mono ?_;rintro e t ⟨rfl,a⟩;have D:=mu;have v:=Bx.new t 118 bQ;have G:=hid v;have q:=hid (a.alloc a.size (.cells bQ 118));have z:=a.size;clear v a;go_wp2_with (first
  | ((with_reducible refine bq 118 (.tmp 4) _ ?_);refine ai rfl _ _ _ rfl t.heap.size 118 bQ bQ (by rfl) (by rfl) G.out rfl p m.out ?_;intro K g f;have y:=hid g;have k:=hid (f.below q.out z);clear g f))
 go_ret2;exact⟨⟨none,0,by rw[J.out,i.out];rfl,by rw[i.out];exact Rd.nil_,by rw[i.out];exact kqb _⟩,k.out⟩
def lu (H:Nat) (a b:Nat) (e:Ending) (w':World):Prop:=∃A c,e=.returned (.tuple #[.slice A (bc a b).length c,.int .i64 (ei a b)])/\w'.ownsRow H 5 1 (.slice A (bc a b).length c) (bc a b).length ((bc a b).flatMap aZ)
theorem kg(h:bE a b=false):lu H a b (.returned (.tuple #[.slice none 0 0,.int .i64 50])) w':=by
 have c:bc a b=[]:=by simp[bc,h]
 have d:ei a b=50:=by simp[ei,h]
 exact⟨none,0,by rw[c,d];rfl,by rw[c];exact kq1 _ _ _ _⟩
theorem uQ{v:Value}(h0:bE a b=true)(h:w'.ownsRow H 5 1 v (cm a).length ((cm a).flatMap aZ)):lu H a b (.returned (.tuple #[v,.int .i64 0])) w':=by
 have d:bc a b=cm a:=by simp[bc,h0]
 have e:ei a b=0:=by simp[ei,h0]
 obtain⟨A,c,rfl⟩:=ap h;exact⟨A,c,by rw[d,e],by rw[d];exact h⟩
theorem sM(a b:Nat)(w:World)(ha:a<18446744073709551616)(hb:b<18446744073709551616):
 Calls prog 117 #[.int .u64 (a:Int),.int .u64 (b:Int)] w λe w'=>lu w.heap.size a b e w'/\Below w.heap.size w w':=by
 have F:=hid (jZ a b);have ha0:(0:Int)<=(a:Int):=by omega
 have e1:=(sq a ha).1;have n:=hid (cV a);have I:=hid (λk h=>lQ a k h);have P:=hid (λk=>s7 a k ha);have Y:a%256<256:=kz1 _ (by omega);obtain⟨m,A⟩:=xq (a%256);rw[A] at e1 n I F Y;by_cases h8:8<m
 .have X:=hid (show bE a b=false by rw[F.out,show decide (m<=8)=false by rw[kqc];omega];rfl);clear A ha hb;go_enter func117,ntmps117;go_wp2;go_ret2;exact⟨kg X.out,kqk _ _⟩
 have J:m<=8:=by omega
 rw[show decide (m<=8)=true by rw[kql];exact J] at F;have hx0:(0:Int)<=(m:Int):=by omega
 have HA:=hid ha;have X:=hid hb;have d8:decide ((8:Int)<(m:Int))=false:=by rw[kqc];omega
 clear A ha hb h8 Y;obtain⟨i0,Z,B,E,D⟩:=kze js;have HI:=hid Z;have S:=hid B;have U:=hid E;have R:=hid D;clear Z B E D;go_enter func117,ntmps117;go_wp2_with fail;go_loopw [7,16] (λv i wr=>∃k:Nat,k<=m/\i=.int .u64 k/\wr.ownsRow w.heap.size 5 1 v k (((cm a).take k).flatMap aZ)/\Below w.heap.size w wr) (λ_ i _=>m-(intOf i).toNat)
 case atStart=>exact⟨0,kqx _,rfl,kq1 _ _ _ _,kqk _ _⟩
 obtain⟨k,hk,rfl,c,y⟩:=hrel;have N:=y.size;by_cases G:k<m
 .have T:=P.out k;have M:=I.out k G;obtain⟨x,O⟩:=xq (a/4 ^ (k+4)%4);have hx3:x<4:=by rw[<-O];exact kz1 _ (by omega)
  rw[O] at T M;have K:=hid (show ((cm a).take (k+1)).flatMap aZ=((cm a).take k).flatMap aZ++[.int .u8 (x:Int)] by
   have hl:k<(cm a).length:=by rw[n.out];exact G
   rw[kqq hl,b9];rw[kqm hl] at M;rw[Option.some.inj M];rfl)
  have hxi:(x:Int)<4:=by omega
  have hx00:(0:Int)<=(x:Int):=by omega
  have hki:(k:Int)<(m:Int):=by omega
  clear O M;go_wp2_with (at_builtin;refine kq9 _ rfl _ _ 113 rfl w.heap.size 5 i0 _ 1 1 underlying113 HI.out S.out U.out R.out rfl (by decide) _ _ _ rfl (c.alloc _) ⟨_,0,none⟩ 1 1 [.int .u8 (x:Int)] rfl rfl (bn _ _ _) (by simp[Value.oneCell']) (by unfold maxLen;omega) (by omega) (aH y.size) ?_;intro v1 L j Q _;have f:=am y y.size c Q);go_roundw
  case rel=>exact⟨k+1,by omega,by go_num,by rw[K.out];exact j,f⟩
  case measure=>simp[intOf];omega
 obtain rfl:k=m:=by omega
 rw[kzb (by rw[n.out];exact kqb _)] at c;obtain⟨A1,c1,rfl⟩:=ap c;have z:=hid (tu A1 (cm a) c1 k wr n.out (by omega) (Rd.of_own c));have g:(cm a).length<=8:=by rw[n.out];exact J
 cases l:fc (cm a)
 .have r:=hid (kY g l);have C:=hid (show bE a b=false by rw[F.out,l];rfl);have V:=hid (show kwV (cm a)=.agg #[.int .u64 0,.int .u64 0] by simp[kwV,r.out,CY]);rw[r.out,V.out] at z;clear l g c;go_wp2_with fail;refine z.out.mono ?_;rintro e L ⟨rfl,f⟩;have d:=y.trans (f.mono N);go_wp2;go_ret2;exact⟨kg C.out,d.alloc d.size _⟩
 have r:=hid (iQ g l);have V:=hid (show kwV (cm a)=.agg #[.int .u64 (jK (cm a):Nat),.int .u64 (iH (jK (cm a)):Nat)] by simp[kwV,r.out,CY]);have t:=hid (show bE a b=(jK (cm a)==a&&iH (jK (cm a))==b) by
  rw[F.out,l];by_cases h:jK (cm a)=a
  .rw[h];simp
  rw[show (jK (cm a)==a)=false by rw[kqi];exact h];simp only[kxt,kjl])
 rw[r.out,V.out] at z;obtain⟨p,W⟩:=xq (jK (cm a));obtain⟨q,hq⟩:=xq (iH p);rw[W,hq] at z t;clear l g W hq;by_cases o:p=a
 .by_cases u:q=b
  .have HY:=hid (show bE a b=true by rw[t.out,o,u];simp);have s:=ov p q a b;rw[show ((p:Int)==(a:Int))=true by rw[kqu];omega,show ((q:Int)==(b:Int))=true by rw[kqu];omega,Bool.and_self] at s;clear o u;go_wp2_with fail;refine z.out.mono ?_;rintro e L ⟨rfl,f⟩;have d:=y.trans (f.mono N);have j:=ae c f (kqb _);go_wp2;go_ret2;refine⟨uQ HY.out (H:=w.heap.size) ?_,d.alloc d.size _⟩;rw[n.out];exact j.alloc _
  have C:=hid (show bE a b=false by rw[t.out,show (q==b)=false by rw[kqi];exact u,kjl]);have s:=ov p q a b;rw[show ((q:Int)==(b:Int))=false by rw[kqi];omega,kjl] at s;clear o u c;go_wp2_with fail;refine z.out.mono ?_;rintro e L ⟨rfl,f⟩;have d:=y.trans (f.mono N);go_wp2;go_ret2;exact⟨kg C.out,d.alloc d.size _⟩
 have C:=hid (show bE a b=false by rw[t.out,show (p==a)=false by rw[kqi];exact o,kxt]);have s:=ov p q a b;rw[show ((p:Int)==(a:Int))=false by rw[kqi];omega,kxt] at s;clear o c;go_wp2_with fail;refine z.out.mono ?_;rintro e L ⟨rfl,f⟩;have d:=y.trans (f.mono N);go_wp2;go_ret2;exact⟨kg C.out,d.alloc d.size _⟩
def CW (H:Nat) (a b:Nat) (e:Ending) (w':World):Prop:=∃A c,e=.returned (.tuple #[.slice A (bc a b).length c,.bool (bE a b)])/\w'.ownsRow H 5 1 (.slice A (bc a b).length c) (bc a b).length ((bc a b).flatMap aZ)
theorem uP(A:Option Addr)(ws:List Nat)(c n t:Nat)(w:World)(hn:ws.length=n)(hm:n<=1000000)(h2:256<=n)(ht:t<8)(hr:RdW w w.heap.size A ws)(ho:∀x∈ws,x<18446744073709551616):
 Calls prog 110 #[.slice A n c,.int .i64 (t:Int)] w λe w'=>CW w.heap.size (wd ws (96+2*t)) (wd ws (96+2*t+1)) e w'/\Below w.heap.size w w':=by
 subst hn;have o:=eX ho (96+2*t);have r:=eX ho (96+2*t+1);have i:=hid (λW=>sM (wd ws (96+2*t)) (wd ws (96+2*t+1)) W o r);have l:=hid (lU (wd ws (96+2*t)) (wd ws (96+2*t+1)));obtain⟨b,a,rfl,q,m⟩:=RdW.at_ hr (show 96+2*t<ws.length by omega);obtain⟨b',off',u,-,k⟩:=RdW.at_ hr (show 96+2*t+1<ws.length by omega);cases u;rw[<-bI] at m k;obtain⟨x,g⟩:=xq (wd ws (96+2*t));obtain⟨y,h⟩:=xq (wd ws (96+2*t+1));rw[g] at m i l |-;rw[h] at k i l |-;have t0:(0:Int)<=(t:Int):=by omega
 have t8:(t:Int)<8:=by omega
 have w1:IntKind.i64.wrap (2*(t:Int))=2*(t:Int):=kqo _ (by omega);have w2:IntKind.i64.wrap (96+2*(t:Int))=96+2*(t:Int):=kqo _ (by omega);have w3:IntKind.i64.wrap (96+2*(t:Int)+1)=96+2*(t:Int)+1:=kqo _ (by omega);have i1:(0:Int)<=96+2*(t:Int):=by omega
 have i2:(96:Int)+2*(t:Int)<(ws.length:Int):=by omega
 have i3:(0:Int)<=96+2*(t:Int)+1:=by omega
 have i4:(96:Int)+2*(t:Int)+1<(ws.length:Int):=by omega
 have n1:((96:Int)+2*(t:Int)).toNat=96+2*t:=by omega
 have n2:((96:Int)+2*(t:Int)+1).toNat=96+2*t+1:=by omega
 clear hr o r g h ho ht;go_enter func110,ntmps110;go_wp2_with fail
 go_region_held3 (λX:World=>X.cell? ⟨b,a+(96+2*t),none⟩=some (.int .u64 (x:Int))/\X.cell? ⟨b,a+(96+2*t+1),none⟩=some (.int .u64 (y:Int))) (go_keep)
  (first | (go_at_call 117;refine (i.out _).mono ?_;rintro e w5 ⟨⟨v,s,rfl,f⟩,d⟩;have m0:=(d.cell (p:=⟨b,a+(96+2*t),none⟩) q).trans m;have m1:=(d.cell (p:=⟨b,a+(96+2*t+1),none⟩) q).trans k;have j:=hid f;clear f))
 go_wp2;go_ret2;exact⟨⟨v,s,by rw[l.out];rfl,j.out⟩,(kqk _ _).drew.trans d⟩
def fS (x:Nat):List Value:=[.int .i64 (x:Int)]
def aV (x:Bool):List Value:=[.bool x]
theorem qp(x:Nat):(fS x).length=1:=rfl
theorem fQ(x:Bool):(aV x).length=1:=rfl
theorem xY(n:Nat):(List.replicate n (0:Int)).flatMap a8=List.replicate n (.int .i64 0):=by
 induction n with
 | zero=>rfl
 | succ n ih=>rw[kkl,kz7,ih,kkl];rfl
theorem nR(n:Nat):(List.replicate n false).flatMap aV=List.replicate n (.bool false):=by
 induction n with
 | zero=>rfl
 | succ n ih=>rw[kkl,kz7,ih,kkl];rfl
theorem BC(l:List Int)(k:Nat)(x:Int):(l.set k x).flatMap a8=(l.flatMap a8).set k (.int .i64 x):=by
 have:=fi a8 1 jl l k 0 (by omega) x (.int .i64 x) (λy _=>rfl)
 simpa using this
theorem np(l:List Bool)(k:Nat)(x:Bool):(l.set k x).flatMap aV=(l.flatMap aV).set k (.bool x):=by
 have:=fi aV 1 fQ l k 0 (by omega) x (.bool x) (λy _=>rfl)
 simpa using this
theorem lV(l:List Int)(k:Nat)(h:k<l.length):(l.flatMap a8)[k]? = some (.int .i64 (l[k]?.getD 0)):=by
 have:=iq a8 1 jl l k 0 h (by omega)
 simpa [a8,h] using this
theorem iM(l:List Bool)(k:Nat)(h:k<l.length):(l.flatMap aV)[k]? = some (.bool (l[k]?.getD false)):=by
 have:=iq aV 1 fQ l k 0 h (by omega)
 simpa [aV,h] using this
theorem Bc:(prog.info? 3).map (λi=>(i.zero,i.size,i.bytes))=some (some (.int .i64 0),1,8):=by kernel_rfl
theorem ru:(prog.info? 4).map (λi=>(i.zero,i.size,i.bytes))=some (some (.bool false),1,1):=by kernel_rfl
open Classical in
theorem BA(h:ag ws=0)(h1:slsOk ws=true)(h2:rz ws):aF ws=0:=by simp[aF,h,h1,h2]
open Classical in
theorem rc_sl(h:ag ws=0)(h1:slsOk ws=false):aF ws=50:=by simp[aF,h,h1]
open Classical in
theorem Db(h:ag ws=0)(h2:¬ rz ws):aF ws=50:=by simp[aF,h,h2]
theorem kO(l:List Nat)(x:Nat):(l++[x]).flatMap fS=l.flatMap fS++[.int .i64 (x:Int)]:=by simp[fS]
theorem Dr{ys:List Value}(h:w.ownsRow H e 1 (.slice (some ⟨g,0,none⟩) (n+1) c) (n+1) (xs++ys))(hx:xs.length=n):w.ownsRow H e 1 (.slice (some ⟨g,0,none⟩) n c) n xs:=by
 refine⟨by rw[hx,kx7],.inr ?_⟩;rcases h.2 with⟨a,_⟩|⟨g',cap,b,a,l,k,h4,j,i,f⟩
 .cases a
 simp only[Value.slice.injEq,Option.some.injEq,Addr.mk.injEq,and_true,true_and] at a;obtain⟨rfl,rfl⟩:=a;refine⟨g,c,b,rfl,l,k,by omega,j,i,?_⟩;have d:=congrArg (List.take n) f;rw[List.take_take,kx7,kjr (by omega),List.take_left' hx] at d;rw[kx7];exact d
theorem jt(h:w.ownsRow H e sz (.slice A n c) n xs):n<=c:=by obtain⟨A',c',b,a,-⟩:=kI h;cases b;exact a
theorem Et(h:w.ownsRow H e sz (.slice (some ⟨g,0,none⟩) n c) n xs){p:Addr}(hp:g≠p.block)(u:Value):(w.setCell p u).ownsRow H e sz (.slice (some ⟨g,0,none⟩) n c) n xs:=by
 refine⟨h.1,?_⟩;rcases h.2 with⟨a,_⟩|⟨k,b,d,a,j,i,f⟩
 .cases a
 refine .inr ⟨k,b,d,a,j,?_,f⟩;simp only[Value.slice.injEq,Option.some.injEq,Addr.mk.injEq,and_true,true_and] at a;obtain⟨rfl,rfl⟩:=a;exact (kkq w p u g hp).trans i
def RcRes (ws:List Nat) (B:Nat) (e:Ending) (w':World):Prop:=
 (aF ws=0/\∃g c,e=.returned (.tuple #[.slice (some ⟨g,0,none⟩) ws.length c,.int .i64 0])/\w'.ownsRow B 4 1 (.slice (some ⟨g,0,none⟩) ws.length c) ws.length ((seenL ws).flatMap aV)) \/
 (aF ws=50/\e=.returned (.tuple #[.slice none 0 0,.int .i64 50]))
theorem CL(A L:Option Addr)(ws:List Nat)(c cl n:Nat)(l:List Bk)(w:World)(hn:ws.length=n)(hm:n<=9223372036854775807)(h0:ag ws=0)(hl:aa ws=l)(hr:RdW w w.heap.size A ws)(hrl:RdB w w.heap.size L l)(ho:∀x∈ws,x<18446744073709551616):
 Calls prog 63 #[.slice A n c,.slice L l.length cl] w λe w'=>RcRes ws w.heap.size e w'/\Below w.heap.size w w':=by
 subst hn;have HR:=hid hr;have HL:=hid hrl;have HO:=hid ho;obtain⟨hs,-⟩:=al h0;have Lq:=de ws hs;obtain⟨Mn,hb2,-⟩:=Lq;have Ls:Hid (∀k,wd ws k<18446744073709551616):=hid (eX ho);have Gm:=hid (CN A ws c ws.length w rfl hm hr ho);unfold Dl at Gm;have Gu:=hid h0;clear hr hrl ho;cases Fz:slsOk ws
 .have he:=lc hs Fz;have hq:eQ ws=[]:=by simp[eQ,he]
  rw[he,hq] at Gm;have HV:=hid (rc_sl h0 Fz);clear hs Fz he hq h0;go_enter func63,ntmps63;go_wp2_with fail;refine Gm.out.mono ?_;rintro e w1 ⟨⟨A1,c1,rfl,-,-⟩,U⟩;go_wp2;go_ret2;exact⟨.inr ⟨HV.out,rfl⟩,U⟩
 obtain⟨g1,g2⟩:=iW hs Fz;rw[g1,g2,el] at Gm;have Ly:=hid Fz;obtain⟨i0,hi,Kr,Lb,Kn⟩:=kze Bc;obtain⟨i1,hj,La,Le,Kt⟩:=kze ru;have q:=hid (And.intro hi (And.intro Kr (And.intro Lb Kn)));have Gt:=hid (And.intro hj (And.intro La (And.intro Le Kt)));have Lw:=dl ws;rw[hl] at Lw;have Lp:=hid hl;have Kd:Hid (∀k (h:k<l.length),l[k].kind=1->∃a t:Nat,l[k].at_=(a:Int)/\l[k].typ=(t:Int)/\a<ws.length/\t<128):=hid (by
  subst hl;intro k h h1;obtain⟨a,e1,e2⟩:=lw h0 h h1;refine⟨a,wd ws a/512%128,by rw[e1];rfl,by rw[e1];rfl,e2.2.2.1,kz1 _ (by omega)⟩)
 clear hl;clear hs Fz g1 g2 hi Kr Lb Kn hj La Le Kt h0;go_enter func63,ntmps63;go_wp2_with fail;refine Gm.out.mono ?_;rintro e w1 ⟨⟨A1,c1,rfl,Jv,-⟩,U⟩;have Mh:=hid Jv;obtain⟨W2,Ji,E,Gp⟩:=run_make_full (P:=prog) w1 w1.heap.size 42 3 i0 (.int .i64 0) 1 underlying42 q.out.1 q.out.2.1 q.out.2.2.1 .i64 .i64 ws.length (by rw[q.out.2.2.2];omega) (by unfold maxLen;omega) (kqb _);have Ky:W2.ownsRow w1.heap.size 3 1 (.slice (some ⟨w1.heap.size,0,none⟩) ws.length ws.length) ws.length ((pV ws.length (l.take 0)).flatMap a8):=by show W2.ownsRow _ _ _ _ _ ((List.replicate ws.length (0:Int)).flatMap a8);rw[xY,<-toList_madeCells_one];have:=E;rw[kx7] at this;exact this
 have Fv:=(kqk w1.heap.size w1).grown Gp (kqb _) (λk hk=>by cases hk);have Mj:=hid Ky;have Ku:=hid U;have HB2:=hid (U.trans (Fv.mono U.size));have Km:=hid Fv;have Kp:=hid Mh.out;have Jb:=U.size;have hz2w:=Fv.size;clear Jv E Gp Ky Fv U;go_wp2_with fail;clear Ji;go_loopw [34] (λi wr=>∃k:Nat,k<=l.length/\i=.int .i64 k/\wr.ownsRow w1.heap.size 3 1 (.slice (some ⟨w1.heap.size,0,none⟩) ws.length ws.length) ws.length ((pV ws.length (l.take k)).flatMap a8)/\Below w1.heap.size w1 wr) (λi _=>l.length-(intOf i).toNat)
 case atStart=>exact⟨0,kqx _,rfl,Mj.out,Km.out⟩
 obtain⟨k,hk,rfl,d,hB⟩:=hrel;have hz:=hB.size;by_cases Jm:k<l.length
 .have Gd:=Ku.out.trans (hB.mono Jb);obtain⟨b,off,rfl,Mo,q0,q1,q2,q3,q4,q5⟩:=RdB.at_ (Rd.below HL.out Gd) Jm;have Z:=hid (xQ (n:=ws.length) Jm);have Jt:=hid (Kd.out k Jm);have Jl:=oK ws.length (l.take k);obtain⟨x,hx⟩:=xq (l[k]);obtain⟨tl,K⟩:=xq (pV ws.length (l.take k));rw[hx] at q0 q1 q2 q3 q4 q5 Z Jt;rw[K] at Z d Jl;obtain⟨xa,xs,xk,xt,xm,xn⟩:=x;dsimp only at q0 q1 q2 q3 q4 q5 Z Jt;have hlm:(k:Int)<(l.length:Int):=by omega
  clear hx K;by_cases Fq:xk=1
  .obtain ⟨a,t,ha,ht,Jo,Kq⟩:=Jt.out Fq;subst ha ht;have Lt:(xk==1)=true:=by rw[kqu];exact Fq
   have Gr:=hid (Z.out.trans (if_pos Fq));simp only[kqj] at Gr;have hw1:IntKind.i64.wrap ((t:Int)+1)=(t:Int)+1:=kqo _ (by omega);have Mb:(a:Int)<(ws.length:Int):=by omega
   have Lv:(0:Int)<=(a:Int):=by omega
   have Fp:=d.alloc (.cells #[.int .i64 (a:Int),.int .i64 xs,.int .i64 xk,.int .i64 (t:Int),.bool xm,.int .u64 (xn:Int)] 55);have c0:=(d.cellAt a (by omega)).trans (lV tl a (by omega));have f0:=d.frozenAt a;have c0':=(Fp.cellAt a (by omega)).trans (lV tl a (by omega));have f0':=Fp.frozenAt a;obtain⟨u,hu⟩:=xq (tl[a]?.getD 0);rw[hu] at c0 c0';have hgw:=(d.lt _ rfl).2;have Jr:=hid d;clear Fp;clear Fq hu Z d;go_wp2;go_roundw
   case rel =>
    refine⟨k+1,by omega,by go_num,?_,(hB.setCell (p:=⟨w1.heap.size,a,none⟩) (kqb _) _).alloc (by rw[kxz];exact hz) _⟩;rw[Gr.out,BC];exact (Jr.out.stored a _).1.alloc _
   case measure=>simp[intOf];omega
  have Lt:(xk==1)=false:=by rw[kqi];exact Fq
  have Gr:=hid (Z.out.trans (if_neg Fq));have Jr:=hid d;clear Fq Z d;go_wp2;go_roundw
  case rel=>exact⟨k+1,by omega,by go_num,by rw[Gr.out];exact Jr.out.alloc _,hB.alloc hz _⟩
  case measure=>simp[intOf];omega
 rename World=>wA
 rw[kzb (by omega)] at d;obtain⟨tl,K⟩:=xq (pV ws.length l);have Jl:=oK ws.length l;rw[K] at d Jl;have Ka:Hid (∀a,tb ws a=tl[a]?.getD 0):=hid λa=>by unfold tb;rw[Lp.out,K]
 have Jd:=hid d;have Gd:=Ku.out.trans (hB.mono Jb);have Fw:=hid Gd;have Eq:=Gd.size;have Md:=hid (Rd.below Kp.out hB);clear K d Gd;obtain⟨W3,Ji,E,Gp⟩:=run_make_full (P:=prog) wA wA.heap.size 114 4 i1 (.bool false) 1 underlying114 Gt.out.1 Gt.out.2.1 Gt.out.2.2.1 .i64 .i64 ws.length (by rw[Gt.out.2.2.2];omega) (by unfold maxLen;omega) (kqb _);have Jn:W3.ownsRow wA.heap.size 4 1 (.slice (some ⟨wA.heap.size,0,none⟩) ws.length ws.length) ws.length ((List.replicate ws.length false).flatMap aV):=by rw[nR,<-toList_madeCells_one];have:=E;rw[kx7] at this;exact this
 have Mi:=hid Jn;have Ma:=hid ((kqk wA.heap.size wA).grown Gp (kqb _) (λk hk=>by cases hk));have Lu:wA.heap.size<W3.heap.size:=by have:=Jn.lt wA.heap.size rfl;exact this.2
 clear E Gp Jn;go_wp2_with fail;clear Ji;go_loopw [12,54] (λv i w4=>∃k:Nat,k<=16/\i=.int .i64 k/\w4.ownsRow W3.heap.size 3 1 v (un ws k).length ((un ws k).flatMap fS)/\Below W3.heap.size W3 w4) (λ_ i _=>16-(intOf i).toNat)
 case atStart=>exact⟨0,kqx _,rfl,kq1 _ _ _ _,kqk _ _⟩
 obtain⟨X,hk2,rfl,d,Gh⟩:=hrel;have Jp:=Gh.size;have Ft:=Ma.out.trans (Gh.mono (kjf Lu));by_cases Kh:X<16
 .obtain ⟨b,off,rfl,Mo,q0,q1,q2⟩:=RdS.at_ (Rd.below Md.out (Ft.mono hz)) (show X<(slL ws).length by rw[el];exact Kh);rw[lk] at q0 q1 q2;have I:=hid (y9 ws X);have Gq:=sS ws X;obtain⟨-,-,S,Gk⟩:=gw (wd ws (112+X));have D:slAt ws X=dD (wd ws (112+X)):=rfl;rw[<-D] at S Gk;obtain⟨s,Kj⟩:=xq (slAt ws X);rw[Kj] at q0 q1 q2 I S Gk;obtain⟨m,Lc⟩:=xq (un ws X);rw[Lc] at d I Gq;obtain⟨sg,su,sa⟩:=s;dsimp only at q0 q1 q2 I S Gk;obtain⟨u,rfl⟩:=kq2 S;rw[kqj] at I;have hk16:(X:Int)<16:=by omega
  have hk00:(0:Int)<=(X:Int):=by omega
  clear D Kj Lc Ft S;cases su
  .have Jh:=hid (I.out.trans (by simp:m++(if false=true then [u] else [])=m));clear I;go_wp2;go_roundw
   case rel=>exact⟨X+1,by omega,by go_num,by rw[Jh.out];exact d.alloc _,Gh.alloc Jp _⟩
   case measure=>simp[intOf];omega
  have Jh:=hid (show un ws (X+1)=m++[u] from I.out);clear I;go_wp2_with (at_builtin;refine kq9 _ rfl _ _ 42 rfl W3.heap.size 3 i0 _ 1 8 underlying42 q.out.1 q.out.2.1 q.out.2.2.1 q.out.2.2.2 rfl (by decide) _ _ _ rfl ((d.alloc _).alloc _) ⟨_,0,none⟩ 1 1 [.int .i64 (u:Int)] rfl rfl (kX _ _ _ (kqn _ _)) (by simp[Value.oneCell']) (by unfold maxLen;omega) (by omega) (by simp;omega) ?_;intro v1 w2 y Y _;have Q:=am (Gh.alloc Jp (.cells #[.int .i64 sg,.bool true,.int .i64 (u:Int)] 52)) (by simp;omega) (d.alloc _) Y);go_roundw
  case rel=>exact⟨X+1,by omega,by go_num,by rw[Jh.out,kqz,kO];exact y,Q⟩
  case measure=>simp[intOf];omega
 obtain rfl:X=16:=by omega
 have Jq:=Wk.start ws;have Gq:=sS ws 16;obtain⟨td0,Gz⟩:=xq (un ws 16);rw[Gz] at Jq d Gq;have Lm:=hid Jq;have Kv:=hid d;have Jw:=hid (ae Mi.out Gh (kqb _));have T:na (List.replicate ws.length false)=ws.length:=by simp[na]
 have Mf:=hid T;have Lh:=hid Ft;clear Gz Jq d T Ft;go_wp2_with fail;go_loopg [12] 30000 (λg v w5=>∃(o:List Bool) (J:List Nat),g<=30000/\Hid (Wk ws o J)/\Hid (na o*9+J.length<=g)/\w5.ownsRow wA.heap.size 4 1 (.slice (some ⟨wA.heap.size,0,none⟩) ws.length ws.length) ws.length (o.flatMap aV)/\w5.ownsRow W3.heap.size 3 1 v J.length (J.flatMap fS)/\W3.heap.size<=w5.heap.size/\Below wA.heap.size wA w5)
 case atStart=>exact⟨List.replicate ws.length false,td0,kqb _,Lm.out,by show _<=_;rw[Mf.out];omega,Jw.out,Kv.out,Jp,Lh.out⟩
 obtain⟨o,J,hg30,G,Gb,B,f,Ko,Q⟩:=hrel;have hz5:=Q.size;rcases List.eq_nil_or_concat J with rfl|⟨C,a,rfl⟩
 .have Jc:=G.out.end_;have HV:=hid (BA Gu.out Ly.out Jc.1);have Mg:=hid G.out.seenL;have Ge:=hid B;rw[kxc] at f;obtain⟨A6,c6,rfl⟩:=ap f;have Gs:=hid (Fw.out.trans (Q.mono Eq));clear Jc B f Gb G;go_wp2;go_ret2;exact⟨.inl ⟨HV.out,wA.heap.size,ws.length,rfl,by rw[<-Mg.out];exact ar Ge.out Eq⟩,Gs.out⟩
 simp only[List.concat_eq_append,kqz,List.length_singleton] at G Gb f;have N:=Gb.out;rw[kO] at f;obtain⟨gT,cT,rfl⟩:∃g c,u12=.slice (some ⟨g,0,none⟩) (C.length+1) c:=by obtain⟨g,c,h1,_⟩:=f.form (by omega);exact⟨g,c,h1⟩
 have hcT:=jt f;have T:=bY fS 1 qp C;rw[kx7] at T;have ct:=(f.cellAt C.length (by omega)).trans (by rw[kxp (by omega),T,Nat.sub_self];rfl:_=some (.int .i64 (a:Int)));have Gy:=Dr f T;have hgT:=f.lt gT rfl;have hml:C.length<=30000:=by omega
 have hwl:IntKind.i64.wrap ((C.length:Int)+1-1)=(C.length:Int):=by rw[kqo _ (by omega)];omega
 have hd0:decide ((0:Int)<(C.length:Int)+1)=true:=by rw[kql];omega
 have t0:(0:Int)<=(C.length:Int):=by omega
 have t1:(C.length:Int)<(C.length:Int)+1:=by omega
 have t2:(C.length:Int)<=(cT:Int):=by omega
 have Gs:=hid (Fw.out.trans (Q.mono Eq));have Lr:=hid f;have Gx:=hid Gy;clear N T Gy f;by_cases Jo:a<ws.length
 .have Kk:=ae Jd.out Q (kqb _);have ca:=(Kk.cellAt a (by omega)).trans (lV tl a (by omega));have Ks:=Ka.out a;rw[<-Ks] at ca;have Li:decide ((ws.length:Int)<=(a:Int))=false:=by rw[kqc];omega
  have Ld:decide (ws.length<=a)=false:=by rw[kqc];omega
  have Lv:(0:Int)<=(a:Int):=by omega
  have Mb:(a:Int)<(ws.length:Int):=by omega
  clear Kk Ks;by_cases V:tb ws a=0
  .have HV:=hid (Db Gu.out (G.out.bad V));rw[V] at ca;clear V B;go_wp2;go_ret2;exact⟨.inr ⟨HV.out,rfl⟩,Gs.out⟩
  obtain⟨Fs,Gw⟩:=gO Gu.out V;have Ju:=hid Fs;have Lz:(tb ws a==0)=false:=by rw[kqi];exact V
  have Gq:=G.out.hlen;have cs:=(B.cellAt a (by omega)).trans (iM o a (by omega));have Mc:=hid V;obtain⟨t,ht⟩:∃t:Nat,(ah (wd ws a)).typ=(t:Int):=⟨wd ws a/512%128,rfl⟩;have Kq:t<8:=by have h7:=(bj _).1 (fM Fs.2.2.2.1);have h5:=Fs.2.2.2.2.1;omega
  have Ll:Hid (flds ws a=bc (wd ws (96+2*t)) (wd ws (96+2*t+1))):=hid (by unfold flds;rw[ht];rfl);rw[ht] at Gw;rw[Gw] at ca Lz;have Ln:=hid Gw;have hwt:IntKind.i64.wrap ((t:Int)+1-1)=(t:Int):=by rw[kqo _ (by omega)];omega
  clear Fs Gw V ht;cases D:o[a]?.getD false
  .rw[D] at cs;have fs:=B.frozenAt a;have Kf:o[a]? = some false:=by rw[kqm (by omega)] at D |-;rw[kq4] at D;rw[D]
   have Kl:=hid (G.out.new_ Mc.out);have Lf:=hid (uS Kf);have I:=hid (show (wr.setCell ⟨wA.heap.size,a,none⟩ (.bool true)).ownsRow wA.heap.size 4 1 (.slice (some ⟨wA.heap.size,0,none⟩) ws.length ws.length) ws.length ((o.set a true).flatMap aV) by
    rw[np];exact (B.stored a (.bool true)).1)
   have Gf:=Q.setCell (p:=⟨wA.heap.size,a,none⟩) (kqb _) (.bool true);have Kz:=hid Gf;have Gl:(wr.setCell ⟨wA.heap.size,a,none⟩ (.bool true)).ownsRow W3.heap.size 3 1 (.slice (some ⟨gT,0,none⟩) C.length cT) C.length (C.flatMap fS):=Et Gx.out (p:=⟨wA.heap.size,a,none⟩) (by show gT≠wA.heap.size;omega) (.bool true);have Jz:=hid Gl;have c6:=(ae Jd.out Gf (kqb _)).cellAt a (by omega) |>.trans (lV tl a (by omega));rw[<-Ka.out a,Ln.out] at c6;have Fu:=hid (λW (h:RdW W W.heap.size A ws)=>uP A ws c ws.length t W rfl (by omega) Mn Kq h HO.out);unfold CW at Fu;rw[<-Ll.out] at Fu;clear B Lr;have Ki:=rE ws a;have Je:Hid (∀j,j<(flds ws a).length->a+2+j<ws.length):=hid λj hj=>nh Ju.out hj;have Kc:Hid (∀j,mj ws a (j+1)=mj ws a j++(if (flds ws a)[j]? = some 3/\wd ws (a+2+j)≠0 then [min (wd ws (a+2+j)) 2048] else [])):=hid λj=>xx ws a j;have Lg:Hid (∀j,(mj ws a j).length<=j):=hid λj=>Bw ws a j;have Mm:=hid (HR.out.up (Fw.out.trans (Gf.mono Eq)) (Fw.out.trans (Gf.mono Eq)).size);obtain⟨F,hF⟩:=xq (flds ws a);rw[hF] at Fu Kl Ki Je Kc;have hw2:IntKind.i64.wrap ((a:Int)+2)=(a:Int)+2:=kqo _ (by omega);have N:=Gb.out;clear hF Gf Gl D Kf;go_wp2_with fail
   refine (Fu.out _ Mm.out).mono ?_;rintro e w7 ⟨⟨A7,c7,rfl,Kw⟩,Gg⟩;have Lj:=hid Kw;have Lk:=hid (Kz.out.trans (Gg.mono Kz.out.size));have Me:=hid (ae I.out Gg (kqb _));have Lo:=hid (ae Jz.out Gg (kqb _));have Jy:W3.heap.size<=w7.heap.size:=by have:=Gg.size;rw[kxz] at this;omega
   clear Gg Kw cs ca c6 ct fs;go_wp2_with fail;go_loopw [12,110] (λv i w8=>∃j:Nat,j<=F.length/\i=.int .i64 j/\w8.ownsRow W3.heap.size 3 1 v (C++mj ws a j).length ((C++mj ws a j).flatMap fS)/\w8.ownsRow wA.heap.size 4 1 (.slice (some ⟨wA.heap.size,0,none⟩) ws.length ws.length) ws.length ((o.set a true).flatMap aV)/\(∃H,w8.ownsRow H 5 1 (.slice A7 F.length c7) F.length (F.flatMap aZ))/\W3.heap.size<=w8.heap.size/\Below wA.heap.size wA w8) (λ_ i _=>F.length-(intOf i).toNat)
   case atStart=>exact⟨0,kqx _,rfl,by rw[show C++mj ws a 0=C from kzm C];exact Lo.out,Me.out,⟨_,Lj.out⟩,Jy,Lk.out⟩
   obtain⟨j,hj,rfl,f,B,⟨H8,Gn⟩,Gj,R⟩:=hrel;have Kg:=R.size;have Jg:(C++mj ws a j).length<=C.length+j:=by rw[kqz];have:=Lg.out j;omega
   by_cases Ga:j<F.length
   .obtain ⟨bF,oF,rfl,hbF,y0⟩:=RdY.at_ (show RdY wr wr.heap.size A7 F from Rd.of_own Gn) Ga;have Ke:=Je.out j Ga;have Kx:=HR.out.up (Fw.out.trans (R.mono Eq)) (Fw.out.trans (R.mono Eq)).size;obtain⟨bW,oW,rfl,hbW,x0⟩:=RdW.at_ Kx Ke;rw[<-bI] at x0;have Gc:=hid (Kc.out j);rw[kqm Ga] at Gc;have Jf:=Ls.out (a+2+j);have Ja:=hid (gK Gn f (by decide));obtain⟨kd,Kb⟩:=xq (F[j]);obtain⟨x,hx⟩:=xq (wd ws (a+2+j));obtain⟨m,Js⟩:=xq (C++mj ws a j);rw[Kb] at y0 Gc;rw[hx] at x0 Gc Jf;rw[Js] at f Jg;have Fx:Hid (C++mj ws a (j+1)=m++(if some kd=some 3/\x≠0 then [min x 2048] else [])):=hid (by rw[Gc.out,<-kku,Js]);have hji:(j:Int)<(F.length:Int):=by omega
    have hj0:(0:Int)<=(j:Int):=by omega
    have hw3:IntKind.i64.wrap ((a:Int)+2+(j:Int))=(a:Int)+2+(j:Int):=kqo _ (by omega);have i0':(0:Int)<=(a:Int)+2+(j:Int):=by omega
    have i1':(a:Int)+2+(j:Int)<(ws.length:Int):=by omega
    have it':((a:Int)+2+(j:Int)).toNat=a+2+j:=by omega
    have hmm:m.length<=40000:=by omega
    have r:=hid f;have M:=hid B;have Fr:=hid Gn;have HXL:=hid Jf;clear Gc Kb hx Js Kx B Gn Ke Jf;by_cases Fo:kd=3
    .have e3:((kd:Int) != 3)=false:=by rw[kqp];omega
     have e3n:(kd != 3)=false:=by rw[kqp];exact Fo
     by_cases Fy:x=0
     .have e0:((x:Int)==0)=true:=by rw[kqu];omega
      have e0n:(x==0)=true:=by rw[kqu];exact Fy
      have HY:=hid (show C++mj ws a (j+1)=m by rw[Fx.out,if_neg (λh=>h.2 Fy),kzm]);clear Fo Fy Fx f;go_wp2;go_roundw
      case rel=>exact⟨j+1,by omega,by go_num,by rw[HY.out];exact r.out,M.out,⟨_,Fr.out⟩,Gj,R⟩
      case measure=>simp[intOf];omega
     have e0:((x:Int)==0)=false:=by rw[kqi];omega
     have e0n:(x==0)=false:=by rw[kqi];exact Fy
     have HY:=hid (show C++mj ws a (j+1)=m++[min x 2048] by rw[Fx.out,if_pos ⟨by rw[Fo],Fy⟩]);clear Fo Fy Fx;have Jj:=λ(z:Int) (h0:0<=z) (h1:z<=2048)=>show IntKind.i64.wrap z=z from kqo _ (by omega);have Gv:min x 2048=x/\x<=2048\/min x 2048=2048/\2048<x:=by omega
     rcases Gv with⟨N,Lx⟩|⟨N,Lx⟩
     .rw[N] at HY;have hwx:=Jj (x:Int) (by omega) (by omega);have hmin:(if (x:Int)<2048 then (x:Int) else 2048)=(x:Int):=by split<;>omega
      clear Jj N;go_wp2_with (at_builtin;refine kq9 _ rfl _ _ 42 rfl W3.heap.size 3 i0 _ 1 8 underlying42 q.out.1 q.out.2.1 q.out.2.2.1 q.out.2.2.2 rfl (by decide) _ _ _ rfl (r.out.alloc _) ⟨_,0,none⟩ 1 1 [.int .i64 (x:Int)] rfl rfl (bn _ _ _) (by simp[Value.oneCell']) (by unfold maxLen;omega) (by omega) (by simp;omega) ?_;intro v1 w9 y Y _;have Gi:=hid y;have O:=hid Y;clear y Y);go_roundw
      case rel =>
       have Jk:=O.out.size;rw[kqn] at Jk;refine⟨j+1,by omega,by go_num,by rw[HY.out,kqz,kO];exact Gi.out,(M.out.alloc _).kept O.out (.inr ?_),⟨_,(Fr.out.alloc _).kept O.out Ja.out⟩,by omega,(R.alloc Kg _).grown O.out (by rw[kqn];omega) (λk hk=>by have:=(r.out.lt k hk).1;omega)⟩;intro h;have:=(r.out.lt wA.heap.size h.symm).1;omega
      case measure=>simp[intOf];omega
     rw[N] at HY;have hxi1:(2048:Int)<(x:Int):=by omega
     have hxi2:¬ (x:Int)<2048:=by omega
     have hxi3:¬ (x:Int)<=2048:=by omega
     have hxi4:¬ x<2048:=by omega
     have hxi5:¬ x<=2048:=by omega
     clear Jj N;go_wp2_with (at_builtin;refine kq9 _ rfl _ _ 42 rfl W3.heap.size 3 i0 _ 1 8 underlying42 q.out.1 q.out.2.1 q.out.2.2.1 q.out.2.2.2 rfl (by decide) _ _ _ rfl (r.out.alloc _) ⟨_,0,none⟩ 1 1 [.int .i64 2048] rfl rfl (bn _ _ _) (by simp[Value.oneCell']) (by unfold maxLen;omega) (by omega) (by simp;omega) ?_;intro v1 w9 y Y _;have Gi:=hid y;have O:=hid Y;clear y Y);go_roundw
     case rel =>
      have Jk:=O.out.size;rw[kqn] at Jk;refine⟨j+1,by omega,by go_num,by rw[HY.out,kqz,kO];exact Gi.out,(M.out.alloc _).kept O.out (.inr ?_),⟨_,(Fr.out.alloc _).kept O.out Ja.out⟩,by omega,(R.alloc Kg _).grown O.out (by rw[kqn];omega) (λk hk=>by have:=(r.out.lt k hk).1;omega)⟩;intro h;have:=(r.out.lt wA.heap.size h.symm).1;omega
     case measure=>simp[intOf];omega
    have e3:((kd:Int) != 3)=true:=by rw[kqt];omega
    have e3n:(kd != 3)=true:=by rw[kqt];exact Fo
    have HY:=hid (show C++mj ws a (j+1)=m by rw[Fx.out,if_neg (λh=>Fo (Option.some.inj h.1)),kzm]);clear Fo Fx f;go_wp2;go_roundw
    case rel=>exact⟨j+1,by omega,by go_num,by rw[HY.out];exact r.out,M.out,⟨_,Fr.out⟩,Gj,R⟩
    case measure=>simp[intOf];omega
   obtain rfl:j=F.length:=by omega
   have r:=hid f;have M:=hid B;have hfs:=Lf.out;clear f B Gn;go_wp2;go_roundg (gk-1)
   case rel=>exact⟨o.set a true,C++mj ws a F.length,by omega,Kl.out,by show _<=_;omega,M.out,r.out,Gj,R⟩
   case measure=>omega
  rw[D] at cs;have Ml:=hid (G.out.old (show o[a]? = some true by
   rw[kqm (by omega)] at D |-;rw[kq4] at D;rw[D]))
  have Ge:=hid B;have N:=Gb.out;clear B D G;go_wp2;go_roundg (gk-1)
  case rel=>exact⟨o,C,by omega,Ml.out,by show _<=_;omega,Ge.out,Gx.out,Ko,Q⟩
  case measure=>omega
 have Li:decide ((ws.length:Int)<=(a:Int))=true:=by rw[kql];omega
 have Ld:decide (ws.length<=a)=true:=by rw[kql];omega
 have HV:=hid (Db Gu.out (G.out.bad (by
  by_cases h:tb ws a=0
  .exact h
  exact absurd (qO h) Jo)))
 clear B Jo;go_wp2;go_ret2;exact⟨.inr ⟨HV.out,rfl⟩,Gs.out⟩
def sZ (S:List Bool) (k:Nat):List Int:=((List.range k).filter λa=>S[a]?.getD false).map λa:Nat=>(a:Int)
theorem zd(ws:List Nat):(seenL ws).length=ws.length:=by simp[seenL]
theorem kE(h:a<ws.length):(seenL ws)[a]?.getD false=true↔Rch ws a:=by unfold seenL;rw[kxd,kva h];simp
theorem eE(h:aF ws=0):dY ws=sZ (seenL ws) ws.length:=by
 unfold dY sZ;rw[if_pos h];congr 1;refine List.filter_congr λa d=>?_;have b:=kE (ws:=ws) (kzh.1 d);cases c:(seenL ws)[a]?.getD false
 .rw[c] at b
  simpa using b
 rw[c] at b
 simpa using b
theorem ta(h:aF ws≠0):dY ws=[]:=by unfold dY;rw[if_neg h]
theorem vT(h:ag ws≠0):aF ws=ag ws:=by unfold aF;rw[if_neg h]
end Go.Proofs.YtpcajamacpbjcaaGreat
