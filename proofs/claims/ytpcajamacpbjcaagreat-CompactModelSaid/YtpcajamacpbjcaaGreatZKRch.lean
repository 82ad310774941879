/- Texts laid together: RchP Hnd Hnd2 Flds Rch Rcd. -/
import Derived.Test.YtpcajamacpbjcaaGreatZKHead
import Derived.Test.YtpcajamacpbjcaaGreatZKHeap
import Derived.Deep.RegionHeld3
import Derived.Deep.DrawnRows
import Derived.Laws.OwnMore
set_option maxHeartbeats 16000000
set_option maxRecDepth 100000
set_option linter.all false
namespace Go.Proofs.YtpcajamacpbjcaaGreat
open Lib (hid)
variable {fn:Func}{seen:List Bool}{todo ws:List Nat}{xs:List Value}{B H a b c g i j k n sz x:Nat}{A:Option Addr}{p q:Tmp}{e t:TypeId}{u:Value}{W w w':World}
open Go.Proofs.Tryz
structure Sl where
 gen:Int
 used:Bool
 at_:Int
 deriving DecidableEq,Inhabited
def Sl.cells (x:Sl):List Value:=[.int .i64 x.gen,.bool x.used,.int .i64 x.at_]
theorem Sl.len(x:Sl):x.cells.length=3:=rfl
def dc (w:Nat):Sl:=⟨((w/4294967296%2147483648:Nat):Int),w/9223372036854775808==1,((w%4294967296:Nat):Int)⟩
def lL (s:Sl):Bool:=if s.used=true then decide (0<s.gen)&&(decide (128<=s.at_)&&decide (s.at_<2048)) else s.at_==0
def slAt (ws:List Nat) (i:Nat):Sl:=dc (wd ws (112+i))
def nK (ws:List Nat) (k:Nat):Prop:=∀i,i<k->lL (slAt ws i)=true
theorem oD(ws:List Nat):nK ws 0:=λi h=>absurd h (by omega)
theorem oM(h:nK ws k)(h1:lL (slAt ws k)=true):nK ws (k+1):=λi hi=>by
 rcases kq9 i k with a|a
 .exact h i a
 .have:i=k:=by omega
  subst this;exact h1
def slsOk (ws:List Nat):Bool:=(List.range 16).all λi=>lL (slAt ws i)
theorem bQ(ws:List Nat):slsOk ws=true↔nK ws 16:=by unfold slsOk nK;rw[kzq];exact⟨λh i a=>h i (kq8.2 a),λh i a=>h i (kq8.1 a)⟩
theorem rQ(hk:k<16)(h:lL (slAt ws k)=false):slsOk ws=false:=by
 cases a:slsOk ws with
 | false=>rfl
 | true=>rw[(bQ ws).1 a k hk] at h;cases h
def slL (ws:List Nat):List Sl:=(List.range 16).map (slAt ws)
theorem eg(ws:List Nat):(slL ws).length=16:=by simp[slL]
theorem mt(ws:List Nat)(h:i<(slL ws).length):(slL ws)[i]=slAt ws i:=by simp[slL]
def db (ws:List Nat):Int:=if al (ws.length:Int)=true then (if slsOk ws=true then 0 else 50) else 8
def ew (ws:List Nat):List Sl:=if db ws=0 then slL ws else []
theorem xN(h:al (ws.length:Int)=false):db ws=8:=by simp[db,h]
theorem k8(h:al (ws.length:Int)=true)(h2:slsOk ws=false):db ws=50:=by simp[db,h,h2]
theorem gI(h:al (ws.length:Int)=true)(h2:slsOk ws=true):db ws=0/\ew ws=slL ws:=by simp[ew,db,h,h2]
theorem dt(w:Nat):0<=(dc w).gen/\(dc w).gen<=2147483647/\0<=(dc w).at_/\(dc w).at_<=4294967295:=by unfold dc;dsimp only;have h1:=kz3 (w/4294967296) (show 0<2147483648 by omega);have h2:=kz3 w (show 0<4294967296 by omega);omega
theorem s7{s:Sl}(h:lL s=true)(hu:s.used=true):0<s.gen/\128<=s.at_/\s.at_<2048:=by
 unfold lL at h;rw[if_pos hu] at h
 simpa using h
def qj (n:Nat) (l:List Bk):List Int:=l.foldl (λt b=>if b.kind=1 then t.set b.at_.toNat (b.typ+1) else t) (List.replicate n 0)
theorem BC{l:List Bk}(hk:k<l.length):qj n (l.take (k+1))=if l[k].kind=1 then (qj n (l.take k)).set l[k].at_.toNat (l[k].typ+1) else qj n (l.take k):=by unfold qj;rw[kqp hk,List.foldl_append];rfl
theorem qx(t:List Int)(l:List Bk):(l.foldl (λt b=>if b.kind=1 then t.set b.at_.toNat (b.typ+1) else t) t).length=t.length:=by
 induction l generalizing t with
 | nil=>rfl
 | cons b l ih=>simp only[kkg];rw[ih];split<;>simp
theorem pb(n:Nat)(l:List Bk):(qj n l).length=n:=by unfold qj;rw[qx,kjk]
theorem Di(l:List Bk)(t:List Int)(P:Nat->Int->Prop)(h0:∀a,(t[a]?.getD 0)=0\/P a (t[a]?.getD 0))(h1:∀b∈l,b.kind=1->P b.at_.toNat (b.typ+1))(a:Nat):
 ((l.foldl (λt b=>if b.kind=1 then t.set b.at_.toNat (b.typ+1) else t) t)[a]?.getD 0)=0\/P a ((l.foldl (λt b=>if b.kind=1 then t.set b.at_.toNat (b.typ+1) else t) t)[a]?.getD 0):=by
 induction l generalizing t with
 | nil=>exact h0 a
 | cons b l ih =>
  simp only[kkg];refine ih _ (λa=>?_) (λx c=>h1 x (by simp[c]));split
  .rename_i hk;rw[kz4];split
   .rename_i e;subst e;split
    .right;exact h1 b (by simp) hk
    left;rfl
   exact h0 a
  exact h0 a
theorem FZ(l:List Bk)(t:List Int)(a:Nat)(ha:a<t.length)(h:(t[a]?.getD 0)≠0\/∃b∈l,b.kind=1/\b.at_.toNat=a)(hty:∀b∈l,b.kind=1->0<=b.typ):
 ((l.foldl (λt b=>if b.kind=1 then t.set b.at_.toNat (b.typ+1) else t) t)[a]?.getD 0)≠0:=by
 induction l generalizing t with
 | nil =>
  rcases h with h|⟨b,i,-⟩
  .exact h
  cases i
 | cons b l ih =>
  simp only[kkg];refine ih _ (by split<;>simp[ha]) ?_ (λx c=>hty x (by simp[c]));by_cases g:b.kind=1
  .rw[if_pos g,kz4];by_cases e:b.at_.toNat=a
   .left;rw[if_pos e,if_pos (by omega)];have:=hty b (by simp) g;simp only[kq2,ne_eq];omega
   rw[if_neg e];rcases h with h|⟨x,c,d,f⟩
   .exact .inl h
   rcases kq0.1 c with rfl|c
   .exact absurd f e
   exact .inr ⟨x,c,d,f⟩
  rw[if_neg g];rcases h with h|⟨x,c,d,f⟩
  .exact .inl h
  rcases kq0.1 c with rfl|c
  .exact absurd d g
  exact .inr ⟨x,c,d,f⟩
def tb (ws:List Nat) (a:Nat):Int:=(qj ws.length (aa ws))[a]?.getD 0
theorem nL(h:tb ws a≠0):a<ws.length:=by
 rcases kq9 a ws.length with b|b
 .exact b
 unfold tb at h;rw[kzd (by rw[pb];exact b)] at h;exact absurd rfl h
def cb (ws:List Nat) (a:Nat):Prop:=128<=a/\a%2=0/\a<ws.length/\stands ws a=true/\(ah (wd ws a)).kind=1/\dm ws (bkAt ws a)=true/\∃k,∃h:k<(aa ws).length,(aa ws)[k]=bkAt ws a/\blocks ws a=some ((aa ws).drop k)
theorem ju(h:af ws=0)(hk:k<(aa ws).length)(h1:(aa ws)[k].kind=1):∃a,(aa ws)[k]=bkAt ws a/\cb ws a:=by obtain⟨hs,l,g,c,e⟩:=ao h;subst e;obtain⟨a,b,f,m,i,d,j⟩:=bH _ _ g (by omega) k hk;refine⟨a,b,m,f,i,d,by rw[b] at h1;exact h1,?_,k,hk,b,j⟩;rw[kzq] at c;rw[<-b];exact c _ (kqm hk)
theorem iA(h:af ws=0)(ht:tb ws a≠0):cb ws a/\tb ws a=(ah (wd ws a)).typ+1:=by
 have c:=Di (aa ws) (List.replicate ws.length 0) (λa v=>cb ws a/\v=(ah (wd ws a)).typ+1) (λa=>.inl (by
  rw[kk0];split<;>rfl)) (λb f i=>by
  obtain⟨k,d,rfl⟩:=kqu f;obtain⟨a,e,g⟩:=ju h d i;rw[e];have:(bkAt ws a).at_.toNat=a:=by rw[ab,kqk]
  rw[this];exact⟨g,rfl⟩) a
 exact c.resolve_left ht
theorem yk(h:af ws=0)(ho:cb ws a):tb ws a=(ah (wd ws a)).typ+1/\tb ws a≠0:=by
 obtain⟨h1,h2,i,h4,j,h6,k,n,e,h8⟩:=ho;have c:tb ws a≠0:=by unfold tb qj;refine FZ _ _ _ (by rw[kjk];exact i) (.inr ⟨_,kqm n,by rw[e];exact j,by rw[e,ab,kqk]⟩) (λb l d=>?_);obtain⟨m,f,rfl⟩:=kqu l;obtain⟨a',g,e2⟩:=ju h f d;rw[g];show 0<=((_:Nat):Int);omega
 exact⟨(iA h c).2,c⟩
def flds (ws:List Nat) (a:Nat):List Nat:=aX (wd ws (96+2*(ah (wd ws a)).typ.toNat)) (wd ws (96+2*(ah (wd ws a)).typ.toNat+1))
theorem pr(ws:List Nat)(a:Nat):(flds ws a).length<=8:=kb _ _
theorem tH(h:cb ws a)(hi:i<(flds ws a).length):a+2+i<ws.length:=by
 obtain⟨h1,h2,h3,j,d,g,-⟩:=h;have hs:=aC j;have f:dm ws (bkAt ws a)=cD ws (bkAt ws a):=by
  unfold dm;have:((bkAt ws a).kind != 1)=false:=by rw[kqq];exact d
  rw[this,Bool.false_or]
 have c:=iK (ws:=ws) (b:=bkAt ws a) d;rw[f] at g;rw[f,g] at c;have c:=c.symm;simp only[kqz,kqx] at c;have e:=c.2;rw[aV] at e;have h8:(flds ws a).length=(aX (wd ws (tyA (bkAt ws a))) (wd ws (tyA (bkAt ws a)+1))).length:=rfl;unfold aP at e;omega
inductive Rch (ws:List Nat):Nat->Prop
 | slot (i:Nat) (hi:i<16) (hu:(slAt ws i).used=true):Rch ws (slAt ws i).at_.toNat
 | ref (a i:Nat) (ha:Rch ws a) (ht:tb ws a≠0) (hi:(flds ws a)[i]? = some 3) (hv:wd ws (a+2+i)≠0):Rch ws (min (wd ws (a+2+i)) 2048)
def rS (ws:List Nat):Prop:=∀a,Rch ws a->tb ws a≠0
def lP (ws:List Nat) (a:Nat) (j:Nat):List Nat:=(List.range j).filterMap λi=>if (flds ws a)[i]? = some 3/\wd ws (a+2+i)≠0 then some (min (wd ws (a+2+i)) 2048) else none
theorem zZ(ws:List Nat)(a j:Nat):lP ws a (j+1)=lP ws a j++(if (flds ws a)[j]? = some 3/\wd ws (a+2+j)≠0 then [min (wd ws (a+2+j)) 2048] else []):=by unfold lP;rw[kj7,kkh];congr 1;simp only[kjw,kk1];split<;>simp_all
theorem DL(ws:List Nat)(a j:Nat):(lP ws a j).length<=j:=by unfold lP;have:=kku (λi=>if (flds ws a)[i]? = some 3/\wd ws (a+2+i)≠0 then some (min (wd ws (a+2+i)) 2048) else none) (List.range j);rwa [kx4] at this
theorem Ek(h:x∈lP ws a j):∃i,(flds ws a)[i]? = some 3/\wd ws (a+2+i)≠0/\x=min (wd ws (a+2+i)) 2048:=by
 unfold lP at h;rw[kjm] at h;obtain⟨i,-,b⟩:=h;split at b
 .rename_i h3;injection b with b;exact⟨i,h3.1,h3.2,b.symm⟩
 cases b
theorem DR(h1:(flds ws a)[i]? = some 3)(h2:wd ws (a+2+i)≠0):min (wd ws (a+2+i)) 2048∈lP ws a (flds ws a).length:=by unfold lP;rw[kjm];refine⟨i,kq8.2 (kq7.1 h1).1,?_⟩;rw[if_pos ⟨h1,h2⟩]
structure Wk (ws:List Nat) (seen:List Bool) (todo:List Nat):Prop where
 hlen:seen.length=ws.length
 htodo:∀a∈todo,Rch ws a
 hseen:∀a,seen[a]? = some true->Rch ws a/\tb ws a≠0
 hslot:∀i,i<16->(slAt ws i).used=true->(slAt ws i).at_.toNat∈todo\/seen[(slAt ws i).at_.toNat]? = some true
 href:∀a i,seen[a]? = some true->(flds ws a)[i]? = some 3->wd ws (a+2+i)≠0->min (wd ws (a+2+i)) 2048∈todo\/seen[min (wd ws (a+2+i)) 2048]? = some true
theorem Wk.bad(h:Wk ws seen (todo++[a]))(h0:tb ws a=0):¬ rS ws:=λb=>b a (h.htodo a (by simp)) h0
theorem Wk.old(h:Wk ws seen (todo++[a]))(h1:seen[a]? = some true):Wk ws seen todo:=by
 have c:∀x,x∈todo++[a]\/seen[x]? = some true->x∈todo\/seen[x]? = some true:=by
  intro x b;rcases b with b|b
  .rcases kzo.1 b with b|b
   .exact .inl b
   rw[kq1] at b;subst b;exact .inr h1
  exact .inr b
 exact⟨h.hlen,λx b=>h.htodo x (by simp[b]),h.hseen,λi e d=>c _ (h.hslot i e d),λx i b f g=>c _ (h.href x i b f g)⟩
theorem Wk.new_(h:Wk ws seen (todo++[a]))(h0:tb ws a≠0):Wk ws (seen.set a true) (todo++lP ws a (flds ws a).length):=by
 have l:=h.hlen;have j:=nL h0;have c:∀x,(seen.set a true)[x]? = some true↔x=a\/seen[x]? = some true:=by
  intro x;rw[kz4];by_cases e:a=x
  .subst e;simp[l,j]
  rw[if_neg e];constructor
  .exact .inr
  rintro (g|g)
  .exact absurd g.symm e
  exact g
 have f:∀x,x∈todo++[a]\/seen[x]? = some true->x∈todo++lP ws a (flds ws a).length\/(seen.set a true)[x]? = some true:=by
  intro x b;rw[c];rcases b with b|b
  .rcases kzo.1 b with b|b
   .exact .inl (by simp[b])
   rw[kq1] at b;exact .inr (.inl b)
  exact .inr (.inr b)
 have d:Rch ws a:=h.htodo a (by simp);refine⟨by rw[kze];exact l,λx b=>?_,λx b=>?_,λi o n=>f _ (h.hslot i o n),λx i b k m=>?_⟩
 .rcases kzo.1 b with b|b
  .exact h.htodo x (by simp[b])
  obtain⟨i,p,q,rfl⟩:=Ek b;exact Rch.ref a i d h0 p q
 .rcases (c x).1 b with rfl|b
  .exact ⟨d,h0⟩
  exact h.hseen x b
 rcases (c x).1 b with rfl|b
 .exact .inl (by rw[kzo];exact .inr (DR k m))
 exact f _ (h.href x i b k m)
theorem Wk.end_(h:Wk ws seen []):rS ws/\∀a,seen[a]? = some true↔Rch ws a:=by
 have b:∀a,Rch ws a->seen[a]? = some true:=by
  intro a c
  induction c with
  | slot i hi hu=>exact (h.hslot i hi hu).resolve_left (by simp)
  | ref a i c ht hi hv ih=>exact (h.href a i ih hi hv).resolve_left (by simp)
 exact⟨λa c=>(h.hseen a (b a c)).2,λa=>⟨λd=>(h.hseen a d).1,b a⟩⟩
def tz (ws:List Nat) (k:Nat):List Nat:=(List.range k).filterMap λi=>if (slAt ws i).used=true then some (slAt ws i).at_.toNat else none
theorem Ag(ws:List Nat)(k:Nat):tz ws (k+1)=tz ws k++(if (slAt ws k).used=true then [(slAt ws k).at_.toNat] else []):=by unfold tz;rw[kj7,kkh];congr 1;simp only[kjw,kk1];split<;>simp_all
theorem tX(ws:List Nat)(k:Nat):(tz ws k).length<=k:=by unfold tz;have:=kku (λi=>if (slAt ws i).used=true then some (slAt ws i).at_.toNat else none) (List.range k);rwa [kx4] at this
theorem Wk.start(ws:List Nat):Wk ws (List.replicate ws.length false) (tz ws 16):=by
 have d:∀a:Nat,(List.replicate ws.length false)[a]? ≠ some true:=by intro a;rw[kk0];split<;>simp
 refine⟨kjk,λa b=>?_,λa b=>absurd b (d a),λi e f=>.inl ?_,λa i b=>absurd b (d a)⟩
 .unfold tz at b;rw[kjm] at b;obtain⟨i,e,c⟩:=b;split at c
  .rename_i h3;injection c with c;subst c;exact Rch.slot i (kq8.1 e) h3
  cases c
 unfold tz;rw[kjm];exact⟨i,kq8.2 e,by rw[if_pos f]⟩
open Classical in
noncomputable def ax (ws:List Nat):Int:=if af ws=0 then (if slsOk ws=true then (if rS ws then 0 else 50) else 50) else af ws
open Classical in
noncomputable def seenL (ws:List Nat):List Bool:=(List.range ws.length).map λa=>decide (Rch ws a)
open Classical in
noncomputable def aR (ws:List Nat):List Int:=if ax ws=0 then ((List.range ws.length).filter λa=>decide (Rch ws a)).map (λa:Nat=>(a:Int)) else []
theorem Wk.seenL(h:Wk ws seen []):seen=seenL ws:=by
 have f:=h.end_.2;apply kz7;intro a;unfold Proofs.YtpcajamacpbjcaaGreat.seenL;by_cases b:a<ws.length
 .have c:a<seen.length:=by rw[h.hlen];exact b
  rw[kzh,kxq b,kqj c];simp only[kzk,Option.some.injEq];have:=f a;rw[kqj c,Option.some.injEq] at this;cases d:seen[a] with
  | true=>rw[d] at this;simp[this.1 rfl]
  | false =>
   rw[d] at this;have e:¬ Rch ws a:=λg=>by have:=this.2 g;cases this
   simp[e]
 rw[kzd (by rw[h.hlen];omega),kzd (by simp;omega)]
def mW (l:List Bool):Nat:=(l.filter (! ·)).length
theorem vT{l:List Bool}(h:l[a]? = some false):mW (l.set a true)+1=mW l:=by
 induction l generalizing a with
 | nil=>simp at h
 | cons b l ih =>
  cases a with
  | zero =>simp only[kk2,Option.some.injEq] at h;subst h;simp[mW]
  | succ a =>simp only[kkv] at h;have:=ih h;unfold mW at this |-;cases b<;>simp_all<;>omega
open Go.RowKit
def Sl.val (x:Sl):Value:=.agg #[.int .i64 x.gen,.bool x.used,.int .i64 x.at_]
theorem ux(g:Int)(u:Bool)(a:Int)(w:World)(h1:0<=g)(h2:g<=2147483647):
 Calls prog 171 #[.agg #[.int .i64 g,.bool u,.int .i64 a]] w λe w'=>e=.returned (.bool (lL ⟨g,u,a⟩))/\Below w.heap.size w w':=by
 have i:=(kql w.heap.size w).alloc (kqg _) (.cells #[.int .i64 g,.bool u,.int .i64 a] 52);have d:=hid i;have d1:decide (g<0)=false:=by rw[kqh];omega
 have d2:decide (2147483647<g)=false:=by rw[kqh];omega
 clear i;cases u
 .have H:Hid (lL ⟨g,false,a⟩=(a==0)):=hid rfl;go_enter func171,ntmps171;go_wp2;go_ret;exact⟨by rw[H.out];rfl,d.out⟩
 have H:Hid (∀b:Bool,b=(decide (0<g)&&(decide (128<=a)&&decide (a<2048)))->lL ⟨g,true,a⟩=b):=hid λb h=>by rw[h];rfl
 have c:(∃b,decide (0<g)=b)/\(∃b,decide (128<=a)=b)/\∃b,decide (a<2048)=b:=⟨⟨_,rfl⟩,⟨_,rfl⟩,⟨_,rfl⟩⟩;obtain⟨⟨l,j⟩,⟨n,k⟩,⟨m,o⟩⟩:=c;have f:=hid (H.out _ rfl);rw[j,k,o] at f;clear H h1 h2;cases l<;>cases n<;>cases m
 all_goals
  go_enter func171,ntmps171;go_wp2;go_ret;exact⟨by rw[f.out];rfl,d.out⟩
def slB (x:Nat):Sl:=if lL (dc x)=true then dc x else ⟨0,false,0⟩
def wi (x:Nat):Int:=if lL (dc x)=true then 0 else 50
theorem we(h:lL (dc x)=true):slB x=dc x/\wi x=0:=by simp[slB,wi,h]
theorem wz(h:lL (dc x)=false):slB x=⟨0,false,0⟩/\wi x=50:=by simp[slB,wi,h]
theorem jm(h:fn.results=#[.cell p 52,.tmp q])(tmps:Array Value){v0 v1 v2:Value}(hb:Bx W g t #[v0,v1,v2])(hp:tmps.getD p undef=.pointer (some ⟨g,0,none⟩))(hq:tmps.getD q undef=u):
 (results fn tmps).run prog W=.ok (.tuple #[.agg #[v0,v1,v2],u]) W:=by obtain⟨a,b,c,-⟩:=hb.c3;rw[kxp] at hp hq;simp[results,h,hp,hq,go_sem,a,b,c]
theorem FM(x:Nat)(hx:x<18446744073709551616):bits BinOp.and .u64 ((x:Int)/4294967296) 2147483647=((x/4294967296%2147483648:Nat):Int)/\bits BinOp.and .u64 (x:Int) 4294967295=((x%4294967296:Nat):Int) /\
 (((x:Int)/9223372036854775808)==1)=(x/9223372036854775808==1):=by
 refine⟨?_,sB (k:=32) (m:=4294967295) hx rfl (by omega),?_⟩
 .have a:x/4294967296<18446744073709551616:=by omega
  have h:=sB (k:=31) (m:=2147483647) a rfl (by omega);exact h
 rw[kzr,kqx,kqx];omega
theorem CG(x:Nat)(w:World)(hx:x<18446744073709551616):
 Calls prog 111 #[.int .u64 (x:Int)] w λe w'=>e=.returned (.tuple #[(slB x).val,.int .i64 (wi x)])/\Below w.heap.size w w':=by
 obtain⟨p,r,A⟩:=FM x hx;obtain⟨o,n,t,z⟩:=dt x;have d:=hid (λh=>we (x:=x) h);have f:=hid (λh=>wz (x:=x) h);have c:=hid (λW=>ux (dc x).gen (dc x).used (dc x).at_ W o n);have hx0:(0:Int)<=(x:Int):=by omega
 have F:((x/4294967296%2147483648:Nat):Int)=(dc x).gen:=rfl;have J:((x%4294967296:Nat):Int)=(dc x).at_:=rfl;have H:(x/9223372036854775808==1)=(dc x).used:=rfl;rw[F] at p;rw[J] at r;rw[H] at A;clear F J H hx;obtain⟨s,G⟩:=xq (dc x);rw[G] at p r A o n t z c d f;obtain⟨g,u,a⟩:=s;dsimp only at p r A o n t z c;have w1:IntKind.i64.wrap g=g:=kqr _ (by omega);have w2:IntKind.i64.wrap a=a:=kqr _ (by omega);have B:=Bx.new w 52 #[.int .i64 0,.bool false,.int .i64 0];have D:=hid (B.alloc (.cells #[.int .i64 g,.bool u,.int .i64 a] 52));have y:=Bx.new (w.alloc (.cells #[.int .i64 0,.bool false,.int .i64 0] 52)) 52 #[.int .i64 g,.bool u,.int .i64 a];rw[kqn] at y;have E:=hid y;have C:=hid (((kql w.heap.size w).alloc (kqg _) (.cells #[.int .i64 0,.bool false,.int .i64 0] 52)).alloc (bM (kqg _)) (.cells #[.int .i64 g,.bool u,.int .i64 a] 52));obtain⟨q,I⟩:∃q,lL ⟨g,u,a⟩=q:=⟨_,rfl⟩;rw[I] at c d f;clear B y G I o n t z;go_enter func111,ntmps111;go_wp2_with fail;refine (c.out _).mono ?_;rintro e w3 ⟨rfl,b⟩;have i:=D.out.up b D.out.lt;have m:=E.out.up b E.out.lt;have l:=hid (C.out.trans (b.mono C.out.size));obtain⟨p0,p1,p2,f0,f1,f2,hg0⟩:=i.c3;obtain⟨n0,n1,n2,-⟩:=m.c3;have k:=hid i;clear i m b;cases q
 .have j:=hid (f.out rfl);go_wp2_with fail;exact kqv (v:=.tuple #[.agg #[.int .i64 0,.bool false,.int .i64 0],.int .i64 50]) (jm results111 _ (((k.out.set_ 0 _).set_ 1 _).set_ 2 _) rfl rfl) rfl ⟨by rw[j.out.1,j.out.2];rfl,((l.out.setCell (kqg _) _).setCell (kqg _) _).setCell (kqg _) _⟩
 have j:=hid (d.out rfl);go_wp2_with fail;exact kqv (v:=.tuple #[.agg #[.int .i64 g,.bool u,.int .i64 a],.int .i64 0]) (jm results111 _ (((k.out.set_ 0 _).set_ 1 _).set_ 2 _) rfl rfl) rfl ⟨by rw[j.out.1,j.out.2];rfl,((l.out.setCell (kqg _) _).setCell (kqg _) _).setCell (kqg _) _⟩
def noSl:Sl:=⟨0,false,0⟩
def kn (ws:List Nat) (k:Nat):List Sl:=(List.range 16).map λi=>if i<k then slAt ws i else noSl
def gE (l:List Sl):Array Value:=(l.flatMap Sl.cells).toArray
theorem iJ(ws:List Nat)(k:Nat):(kn ws k).length=16:=by simp[kn]
theorem mF(ws:List Nat)(k j:Nat)(hj:j<16):(kn ws k)[j]? = some (if j<k then slAt ws j else noSl):=by simp[kn,hj]
theorem wI(ws:List Nat)(k:Nat)(hk:k<16):kn ws (k+1)=(kn ws k).set k (slAt ws k):=by
 apply kz7;intro j;rw[kz4];by_cases a:j<16
 .rw[mF _ _ _ a,mF _ _ _ a];by_cases e:k=j
  .subst e;rw[if_pos (show k<k+1 by omega),if_pos rfl,if_pos (by rw[iJ];exact hk)]
  rw[if_neg e];by_cases h:j<k
  .rw[if_pos h,if_pos (by omega)]
  rw[if_neg h,if_neg (by omega)]
 rw[kzd (by rw[iJ];omega),if_neg (by omega),kzd (by rw[iJ];omega)]
theorem vy(ws:List Nat):kn ws 0=List.replicate 16 noSl:=by
 apply kz7;intro j;by_cases a:j<16
 .rw[mF _ _ _ a,if_neg (by omega),kk0,if_pos a]
 rw[kzd (by rw[iJ];omega),kzd (by simp;omega)]
theorem z8(ws:List Nat):kn ws 16=slL ws:=by unfold kn slL;apply kzm;intro i a;rw[if_pos (kq8.1 a)]
theorem sl_set(l:List Sl)(k:Nat)(x:Sl):(l.set k x).flatMap Sl.cells=(((l.flatMap Sl.cells).set (k*3) (.int .i64 x.gen)).set (k*3+1) (.bool x.used)).set (k*3+2) (.int .i64 x.at_):=by
 have d:=eh Sl.cells 3 Sl.len l k 0 (by omega) ⟨x.gen,(l[k]?.getD default).used,(l[k]?.getD default).at_⟩ (.int .i64 x.gen) (λy a=>by rw[a];rfl);have b:=eh Sl.cells 3 Sl.len (l.set k ⟨x.gen,(l[k]?.getD default).used,(l[k]?.getD default).at_⟩) k 1 (by omega) ⟨x.gen,x.used,(l[k]?.getD default).at_⟩ (.bool x.used) (λy a=>by
  rw[kz4] at a;simp only[if_true] at a;split at a
  .cases a;rfl
  cases a)
 have c:=eh Sl.cells 3 Sl.len (l.set k ⟨x.gen,x.used,(l[k]?.getD default).at_⟩) k 2 (by omega) x (.int .i64 x.at_) (λy a=>by
  rw[kz4] at a;simp only[if_true] at a;split at a
  .cases a;rfl
  cases a)
 rw[List.set_set] at b c;rw[c,b,d];rfl
theorem zg(l:List Sl)(k:Nat)(x:Sl):(((gE l).setIfInBounds (k*3) (.int .i64 x.gen)).setIfInBounds (k*3+1) (.bool x.used)).setIfInBounds (k*3+2) (.int .i64 x.at_)=gE (l.set k x):=by unfold gE;rw[sl_set];simp
theorem gv(l:List Sl):(gE l).size=l.length*3:=by unfold gE;rw[kjr,bE Sl.cells 3 Sl.len]
theorem Sl.one(x:Sl):∀u∈x.cells,u.oneCell'=true:=by intro u a;simp only[Sl.cells,kq0,kzu,or_false] at a;rcases a with rfl|rfl|rfl<;>rfl
theorem kB(l:List Sl):(gE l).all (·.oneCell')=true:=by unfold gE;rw[List.all_toArray,kzq];exact cG Sl.one l
def bC:Array Value:=gE (List.replicate 16 noSl)
theorem fC:bC.size=48:=by unfold bC;rw[gv,kjk]
theorem ld:bC.all (·.oneCell')=true:=kB _
theorem nb(w:World):(zeroValue 118).run prog w=.ok (.agg bC) w:=by kernel_rfl
theorem Gu(w:World):(Instr.build 118 #[]).run prog w=.ok (.agg bC) w:=by kernel_rfl
theorem jP:(prog.info? 118).map (·.size)=some 48:=by kernel_rfl
theorem kP(l:List Sl)(h:j<l.length*3):∃u,(gE l)[j]? = some u:=by have:=gv l;exact⟨_,kkn (by omega)⟩
theorem jI(h:fn.results=#[.cell p 118,.tmp q])(tmps:Array Value){cs:Array Value}(hb:Bx W g t cs)(hs:cs.size=48)(hp:tmps.getD p undef=.pointer (some ⟨g,0,none⟩))(hq:tmps.getD q undef=u):
 (results fn tmps).run prog W=.ok (.tuple #[.agg cs,u]) W:=by
 have a:tmps[p]?.getD undef=.pointer (some ⟨g,0,none⟩):=by simpa using hp
 have b:tmps[q]?.getD undef=u:=by simpa using hq
 have c:(prog.info? 118).map (·.size)=some cs.size:=by rw[hs];exact jP
 have d:=run_loadVar_row W g t 118 cs (0,0) _ hb underlying118 rfl c;simp[results,h,a,b,asAddr,d]
def opV (ws:List Nat):Value:=.agg (if db ws=0 then gE (slL ws) else bC)
theorem FX(h:db ws=0):opV ws=.agg (gE (slL ws)):=by simp[opV,h]
theorem ED(h:db ws≠0):opV ws=.agg bC:=by simp[opV,h]
theorem BH(A:Option Addr)(ws:List Nat)(c n:Nat)(w:World)(hn:ws.length=n)(hm:n<=9223372036854775807)(hr:RdW w w.heap.size A ws)(ho:∀x∈ws,x<18446744073709551616):
 Calls prog 64 #[.slice A n c] w λe w'=>e=.returned (.tuple #[opV ws,.int .i64 (db ws)])/\Below w.heap.size w w':=by
 subst hn;have HR:=hid hr;have Jc:Hid (∀k,wd ws k<18446744073709551616):=hid (fd ho);have hzv:=nb;have hbv:=Gu;have z:=fC;have Ja:=hid ld;have o:=jP;have b0:=Bx.new w 118 bC;have C:=(kql w.heap.size w).alloc (kqg _) (.cells bC 118);clear hr ho;cases J:al (ws.length:Int)
 .have HI:=hid (bA J);have M:=xN J;have B:=hid (And.intro M (ED (by rw[M];omega)));have O:=hid b0;have N:=hid C;rw[<-z] at o;have t:=o;clear J M b0 C o;go_enter func64,ntmps64;go_wp2_with fail;refine (aF A ws.length c _ hm).mono ?_;rintro e w1 ⟨rfl,rfl⟩;rw[HI.out];go_wp2_with (first
   | ((with_reducible refine bt 118 (.tmp 2) _ ?_);refine am rfl _ _ _ rfl w.heap.size 118 bC bC (by rfl) (by rfl) O.out rfl t Ja.out ?_;intro w3 T S;have g:=hid T;have Je:=hid S;clear T S))
  exact kqv (v:=.tuple #[.agg bC,.int .i64 8]) (jI results64 _ g.out z rfl rfl) rfl ⟨by rw[B.out.1,B.out.2],Je.out.below N.out (kqg _)⟩
 have HI:=hid (aW J);obtain⟨hb1,hb2,-⟩:=fP ws J;have HS:=hid J;obtain⟨b,off,rfl,hb,-⟩:=RdW.at_ HR.out (show 0<ws.length by omega);have Jf:Hid (∀k (h:k<ws.length) (W:World),Below w.heap.size w W->W.cell? ⟨b,off+k,none⟩=some (.int .u64 (wd ws k:Int))):=hid λk h W G=>by
  obtain⟨b',off',e',-,h0⟩:=RdW.at_ (Rd.below HR.out G) h;cases e';rw[<-ce] at h0;exact h0
 have O:=hid b0;have N:=hid C;rw[<-z] at o;have t:=o;clear J b0 C o;go_enter func64,ntmps64;go_wp2_with fail;refine (aF _ ws.length c _ hm).mono ?_;rintro e w1 ⟨rfl,rfl⟩;rw[HI.out];go_wp2_with fail;go_loopw [15] (λi wr=>∃k:Nat,k<=16/\i=.int .i64 k/\Hid (nK ws k)/\Bx wr w.heap.size 118 bC/\Bx wr (w.heap.size+1) 118 (gE (kn ws k))/\Below w.heap.size w wr) (λi _=>16-(intOf i).toNat)
 case atStart =>
  have x1:=Bx.new (w.alloc (.cells bC 118)) 118 bC;rw[kqn] at x1;exact⟨0,kqy _,rfl,oD ws,O.out.alloc _,by rw[vy];exact x1,N.out.alloc (by simp) _⟩
 obtain⟨k,hk,rfl,V,q0,R,G⟩:=hrel;have hz:=G.size;have Z:=hid q0;have Q1:=hid R;by_cases U:k<16
 .have h0:=Jf.out (112+k) (by omega) _ G;have d:=hid (λW=>CG (wd ws (112+k)) W (Jc.out _));have H:=hid (λh=>oM V.out h);have Q:=hid (λh=>k8 HS.out (rQ U h));have m:dc (wd ws (112+k))=slAt ws k:=rfl;have Jb:=hid (wI ws k U);have hsz:=iJ ws k;obtain⟨u0,K⟩:=kP (kn ws k) (j:=k*3) (by omega);obtain⟨u1,L⟩:=kP (kn ws k) (j:=k*3+1) (by omega);obtain⟨u2,P⟩:=kP (kn ws k) (j:=k*3+2) (by omega);have i1:(0:Int)<=112+(k:Int):=by omega
  have i2:(112:Int)+(k:Int)<(ws.length:Int):=by omega
  have n1:((112:Int)+(k:Int)).toNat=112+k:=by omega
  have hk1:(k:Int)<16:=by omega
  have hk0:(0:Int)<=(k:Int):=by omega
  obtain⟨x,hx⟩:=xq (wd ws (112+k));rw[hx] at h0 d m;cases a:lL (slAt ws k)
  .have M:=Q.out a;have B:=hid (And.intro M (ED (by rw[M];omega)));rw[<-m] at a;rw[(wz a).1,(wz a).2] at d;unfold Sl.val at d;dsimp only at d;clear hx a M m Q H q0 R K L P;go_wp2_with fail;refine (d.out _).mono ?_;rintro e w3 ⟨rfl,f⟩;have u:=hid (Z.out.up f Z.out.lt);have g:=hid (G.trans (f.mono hz));clear f;go_wp2_with (first
    | ((with_reducible refine bt 118 (.tmp 2) _ ?_);refine am rfl _ _ _ rfl w.heap.size 118 bC bC (by rfl) (by rfl) (u.out.alloc _) rfl t Ja.out ?_;intro w4 q r;have D:=hid q;have E:=hid r;clear q r))
   exact kqv (v:=.tuple #[.agg bC,.int .i64 50]) (jI results64 _ D.out z rfl rfl) rfl ⟨by rw[B.out.1,B.out.2],E.out.below (g.out.alloc g.out.size _) (kqg _)⟩
  have Eq:=hid (H.out a);rw[<-m] at a;rw[(we a).1,(we a).2,m] at d;have p:=zg (kn ws k) k (slAt ws k);rw[<-Jb.out] at p;have y:=hid p;obtain⟨s,X⟩:=xq (slAt ws k);rw[X] at d y;obtain⟨sg,su,sa⟩:=s;unfold Sl.val at d;dsimp only at d y;clear hx a m X p Q H q0 R;go_wp2_with fail;refine (d.out _).mono ?_;rintro e w3 ⟨rfl,f⟩;have u:=Q1.out.up f Q1.out.lt;have Q3:=hid u;have Q4:=hid (Z.out.up f Z.out.lt);have hg3:=u.lt;have d0:=(u.cell (k*3)).trans K;have d1:=(u.cell (k*3+1)).trans L;have d2:=(u.cell (k*3+2)).trans P;have f0:=u.frozen (k*3);have f1:=u.frozen (k*3+1);have f2:=u.frozen (k*3+2);have g:=hid (G.trans (f.mono hz));clear f u K L P;go_wp2;go_roundw
  case rel =>
   refine⟨k+1,by omega,by go_num,Eq.out,(((Q4.out.far (by simp) _).far (by simp) _).far (by simp) _).alloc _,?_,(((g.out.setCell (by simp) _).setCell (by simp) _).setCell (by simp) _).alloc (by simpa using g.out.size) _⟩;rw[<-y.out];exact (((Q3.out.set_ (k*3) _).set_ (k*3+1) _).set_ (k*3+2) _).alloc _
  case measure=>simp[intOf];omega
 obtain rfl:k=16:=by omega
 have F:=gI HS.out ((bQ ws).2 V.out);have B:=hid (And.intro F.1 (FX F.1));rw[z8] at R;have l:(gE (slL ws)).size=48:=by rw[gv,eg]
 obtain⟨cs,I⟩:=xq (gE (slL ws));have h1:cs.all (·.oneCell')=true:=by rw[<-I];exact kB _
 have H1:=hid h1;rw[I] at R B l;have Q5:=hid R;have Y:(prog.info? 118).map (·.size)=some cs.size:=by rw[l];exact jP
 have Jd:cs.size=bC.size:=by rw[l,z]
 clear q0 R F I h1;go_wp2_with (first
  | ((with_reducible refine gX 118 (.tmp 5) ?_);refine kja rfl _ _ rfl (w.heap.size+1) (by rfl) 118 cs (0,0) _ Q5.out underlying118 (by rfl) Y ?_)
  | ((with_reducible refine bt 118 (.tmp 2) _ ?_);refine am rfl _ _ _ rfl w.heap.size 118 bC cs (by rfl) (by rfl) Z.out Jd Y H1.out ?_;intro w4 q r;have D:=hid q;have E:=hid r;clear q r))
 exact kqv (v:=.tuple #[.agg cs,.int .i64 0]) (jI results64 _ D.out l rfl rfl) rfl ⟨by rw[B.out.1,B.out.2],E.out.below G (kqg _)⟩
theorem Rd.of_box{cs:Array Value}(h:Bx w g t cs)(hg:g<B):Rd w B (some ⟨g,0,none⟩) cs.toList:=λ_ =>
 ⟨g,0,rfl,hg,λj hj=>by
  rw[kxm,h.cell j]
  simp⟩
def RdS (w:World) (B:Nat) (A:Option Addr) (l:List Sl):Prop:=Rd w B A (l.flatMap Sl.cells)
theorem RdS.at_{l:List Sl}(h:RdS w B A l)(hk:k<l.length):
 ∃b a,A=some ⟨b,a,none⟩/\b<B/\w.cell? ⟨b,a+k*3,none⟩=some (.int .i64 l[k].gen)/\w.cell? ⟨b,a+k*3+1,none⟩=some (.bool l[k].used)/\w.cell? ⟨b,a+k*3+2,none⟩=some (.int .i64 l[k].at_):=by obtain⟨b,a,e,d,c⟩:=Rd.at_flat Sl.len h (by omega) hk;exact⟨b,a,e,d,c 0 (by omega),c 1 (by omega),c 2 (by omega)⟩
def Hn (ws:List Nat) (e:Ending) (w':World):Prop:=∃A c,e=.returned (.tuple #[.slice A (ew ws).length c,.int .i64 (db ws)])/\RdS w' w'.heap.size A (ew ws)/\(ew ws).length<=c
theorem Fh(A:Option Addr)(ws:List Nat)(c n:Nat)(w:World)(hn:ws.length=n)(hm:n<=9223372036854775807)(s:RdW w w.heap.size A ws)(ho:∀x∈ws,x<18446744073709551616):
 Calls prog 25 #[.slice A n c] w λe w'=>Hn ws e w'/\Below w.heap.size w w':=by
 have j:=hid (BH A ws c n w hn hm s ho);clear s ho hn hm;have m:=fC;by_cases h:db ws=0
 .have b:ew ws=slL ws:=by simp[ew,h]
  have i:=hid (And.intro h b);have G:=eg ws;rw[h,FX h] at j;have d:(gE (slL ws)).size=48:=by rw[gv,eg]
  obtain⟨l,u⟩:=xq (slL ws);rw[u] at d j G i;have v:Hid (gE l=(l.flatMap Sl.cells).toArray):=hid rfl;have H:=hid (kB l);have I:=hid G;obtain⟨cs,C⟩:=xq (gE l);rw[C] at j d v H;have o:(prog.info? 118).map (·.size)=some cs.size:=by rw[d];exact jP
  clear h b u C G m;go_enter func25,ntmps25;go_wp2_with fail;refine j.out.mono ?_;rintro e t ⟨rfl,a⟩;have F:=nb;have D:cs.size=bC.size:=by rw[d,fC]
  have z:=Bx.new t 118 bC;have E:=hid z;have k:=hid (a.alloc a.size (.cells bC 118));have p:=a.size;clear z a;go_wp2_with (first
   | ((with_reducible refine bt 118 (.tmp 4) _ ?_);refine am rfl _ _ _ rfl t.heap.size 118 bC cs (by rfl) (by rfl) E.out D o H.out ?_;intro K f g;have B:=hid f;have q:=hid (g.below k.out p);clear f g))
  go_ret2;refine⟨⟨some ⟨t.heap.size,0,none⟩,16,by rw[i.out.1,i.out.2,I.out];rfl,?_,by rw[i.out.2,I.out];omega⟩,q.out⟩;rw[i.out.2];have:=B.out;rw[v.out] at this;exact Rd.of_box this this.lt
 have b:ew ws=[]:=by simp[ew,h]
 have i:=hid b;rw[ED h] at j;obtain⟨r,s⟩:=xq (db ws);have J:=hid s;rw[s] at j h;have hrn:(r != 0)=true:=by rw[kqt];exact h
 have p:=hid ld;have o:(prog.info? 118).map (·.size)=some bC.size:=by rw[m];exact jP
 clear h b s m;go_enter func25,ntmps25;go_wp2_with fail;refine j.out.mono ?_;rintro e t ⟨rfl,a⟩;have F:=nb;have z:=Bx.new t 118 bC;have E:=hid z;have k:=hid (a.alloc a.size (.cells bC 118));have y:=a.size;clear z a;go_wp2_with (first
  | ((with_reducible refine bt 118 (.tmp 4) _ ?_);refine am rfl _ _ _ rfl t.heap.size 118 bC bC (by rfl) (by rfl) E.out rfl o p.out ?_;intro K f g;have B:=hid f;have q:=hid (g.below k.out y);clear f g))
 go_ret2;exact⟨⟨none,0,by rw[J.out,i.out];rfl,by rw[i.out];exact Rd.nil_,by rw[i.out];exact kqg _⟩,q.out⟩
def lF (H:Nat) (a b:Nat) (e:Ending) (w':World):Prop:=∃A c,e=.returned (.tuple #[.slice A (aX a b).length c,.int .i64 (dJ a b)])/\w'.ownsRow H 5 1 (.slice A (aX a b).length c) (aX a b).length ((aX a b).flatMap aJ)
theorem jU(h:bN a b=false):lF H a b (.returned (.tuple #[.slice none 0 0,.int .i64 50])) w':=by
 have c:aX a b=[]:=by simp[aX,h]
 have d:dJ a b=50:=by simp[dJ,h]
 exact⟨none,0,by rw[c,d];rfl,by rw[c];exact kq3 _ _ _ _⟩
theorem wW{v:Value}(h0:bN a b=true)(h:w'.ownsRow H 5 1 v (cP a).length ((cP a).flatMap aJ)):lF H a b (.returned (.tuple #[v,.int .i64 0])) w':=by
 have d:aX a b=cP a:=by simp[aX,h0]
 have e:dJ a b=0:=by simp[dJ,h0]
 obtain⟨A,c,rfl⟩:=aE h;exact⟨A,c,by rw[d,e],by rw[d];exact h⟩
theorem t7(a b:Nat)(w:World)(ha:a<18446744073709551616)(hb:b<18446744073709551616):
 Calls prog 117 #[.int .u64 (a:Int),.int .u64 (b:Int)] w λe w'=>lF w.heap.size a b e w'/\Below w.heap.size w w':=by
 have K:=hid (jw a b);have ha0:(0:Int)<=(a:Int):=by omega
 have e1:=(sG a ha).1;have n:=hid (ei a);have E:=hid (λk h=>ph a k h);have O:=hid (λk=>uK a k ha);have W:a%256<256:=kz3 _ (by omega);obtain⟨m,A⟩:=xq (a%256);rw[A] at e1 n E K W;by_cases h8:8<m
 .have X:=hid (show bN a b=false by rw[K.out,show decide (m<=8)=false by rw[kqh];omega];rfl);clear A ha hb;go_enter func117,ntmps117;go_wp2;go_ret2;exact⟨jU X.out,kql _ _⟩
 have J:m<=8:=by omega
 rw[show decide (m<=8)=true by rw[kqo];exact J] at K;have hx0:(0:Int)<=(m:Int):=by omega
 have HA:=hid ha;have X:=hid hb;have d8:decide ((8:Int)<(m:Int))=false:=by rw[kqh];omega
 clear A ha hb h8 W;obtain⟨i0,Y,D,I,G⟩:=kzt jl;have HI:=hid Y;have U:=hid D;have R:=hid I;have T:=hid G;clear Y D I G;go_enter func117,ntmps117;go_wp2_with fail;go_loopw [7,16] (λv i wr=>∃k:Nat,k<=m/\i=.int .u64 k/\wr.ownsRow w.heap.size 5 1 v k (((cP a).take k).flatMap aJ)/\Below w.heap.size w wr) (λ_ i _=>m-(intOf i).toNat)
 case atStart=>exact⟨0,kqy _,rfl,kq3 _ _ _ _,kql _ _⟩
 obtain⟨k,hk,rfl,c,y⟩:=hrel;have N:=y.size;by_cases C:k<m
 .have Q:=O.out k;have L:=E.out k C;obtain⟨x,S⟩:=xq (a/4 ^ (k+4)%4);have hx3:x<4:=by rw[<-S];exact kz3 _ (by omega)
  rw[S] at Q L;have F:=hid (show ((cP a).take (k+1)).flatMap aJ=((cP a).take k).flatMap aJ++[.int .u8 (x:Int)] by
   have Z:k<(cP a).length:=by rw[n.out];exact C
   rw[kqp Z,bP];rw[kqj Z] at L;rw[Option.some.inj L];rfl)
  have hxi:(x:Int)<4:=by omega
  have hx00:(0:Int)<=(x:Int):=by omega
  have hki:(k:Int)<(m:Int):=by omega
  clear S L;go_wp2_with (at_builtin;refine kzn _ rfl _ _ 113 rfl w.heap.size 5 i0 _ 1 1 underlying113 HI.out U.out R.out T.out rfl (by decide) _ _ _ rfl (c.alloc _) ⟨_,0,none⟩ 1 1 [.int .u8 (x:Int)] rfl rfl (bY _ _ _) (by simp[Value.oneCell']) (by unfold maxLen;omega) (by omega) (bM y.size) ?_;intro v1 M j V _;have f:=aw y y.size c V);go_roundw
  case rel=>exact⟨k+1,by omega,by go_num,by rw[F.out];exact j,f⟩
  case measure=>simp[intOf];omega
 obtain rfl:k=m:=by omega
 rw[kzg (by rw[n.out];exact kqg _)] at c;obtain⟨A1,c1,rfl⟩:=aE c;have z:=hid (tQ A1 (cP a) c1 k wr n.out (by omega) (Rd.of_own c));have g:(cP a).length<=8:=by rw[n.out];exact J
 cases l:dd (cP a)
 .have o:=hid (lk g l);have B:=hid (show bN a b=false by rw[K.out,l];rfl);have P:=hid (show kwV (cP a)=.agg #[.int .u64 0,.int .u64 0] by simp[kwV,o.out,yR]);rw[o.out,P.out] at z;clear l g c;go_wp2_with fail;refine z.out.mono ?_;rintro e M ⟨rfl,f⟩;have d:=y.trans (f.mono N);go_wp2;go_ret2;exact⟨jU B.out,d.alloc d.size _⟩
 have o:=hid (je g l);have P:=hid (show kwV (cP a)=.agg #[.int .u64 (gx (cP a):Nat),.int .u64 (gc (gx (cP a)):Nat)] by simp[kwV,o.out,yR]);have u:=hid (show bN a b=(gx (cP a)==a&&gc (gx (cP a))==b) by
  rw[K.out,l];by_cases h:gx (cP a)=a
  .rw[h];simp
  rw[show (gx (cP a)==a)=false by rw[kqi];exact h];simp only[kxy,kj3])
 rw[o.out,P.out] at z;obtain⟨p,hp⟩:=xq (gx (cP a));obtain⟨q,hq⟩:=xq (gc p);rw[hp,hq] at z u;clear l g hp hq;by_cases r:p=a
 .by_cases t:q=b
  .have HY:=hid (show bN a b=true by rw[u.out,r,t];simp);have s:=oo p q a b;rw[show ((p:Int)==(a:Int))=true by rw[kqx];omega,show ((q:Int)==(b:Int))=true by rw[kqx];omega,Bool.and_self] at s;clear r t;go_wp2_with fail;refine z.out.mono ?_;rintro e M ⟨rfl,f⟩;have d:=y.trans (f.mono N);have j:=aj c f (kqg _);go_wp2;go_ret2;refine⟨wW HY.out (H:=w.heap.size) ?_,d.alloc d.size _⟩;rw[n.out];exact j.alloc _
  have B:=hid (show bN a b=false by rw[u.out,show (q==b)=false by rw[kqi];exact t,kj3]);have s:=oo p q a b;rw[show ((q:Int)==(b:Int))=false by rw[kqi];omega,kj3] at s;clear r t c;go_wp2_with fail;refine z.out.mono ?_;rintro e M ⟨rfl,f⟩;have d:=y.trans (f.mono N);go_wp2;go_ret2;exact⟨jU B.out,d.alloc d.size _⟩
 have B:=hid (show bN a b=false by rw[u.out,show (p==a)=false by rw[kqi];exact r,kxy]);have s:=oo p q a b;rw[show ((p:Int)==(a:Int))=false by rw[kqi];omega,kxy] at s;clear r c;go_wp2_with fail;refine z.out.mono ?_;rintro e M ⟨rfl,f⟩;have d:=y.trans (f.mono N);go_wp2;go_ret2;exact⟨jU B.out,d.alloc d.size _⟩
def E5 (H:Nat) (a b:Nat) (e:Ending) (w':World):Prop:=∃A c,e=.returned (.tuple #[.slice A (aX a b).length c,.bool (bN a b)])/\w'.ownsRow H 5 1 (.slice A (aX a b).length c) (aX a b).length ((aX a b).flatMap aJ)
theorem vC(A:Option Addr)(ws:List Nat)(c n t:Nat)(w:World)(hn:ws.length=n)(hm:n<=1000000)(h2:256<=n)(ht:t<8)(hr:RdW w w.heap.size A ws)(ho:∀x∈ws,x<18446744073709551616):
 Calls prog 110 #[.slice A n c,.int .i64 (t:Int)] w λe w'=>E5 w.heap.size (wd ws (96+2*t)) (wd ws (96+2*t+1)) e w'/\Below w.heap.size w w':=by
 subst hn;have o:=fd ho (96+2*t);have q:=fd ho (96+2*t+1);have i:=hid (λW=>t7 (wd ws (96+2*t)) (wd ws (96+2*t+1)) W o q);have k:=hid (mf (wd ws (96+2*t)) (wd ws (96+2*t+1)));obtain⟨b,a,rfl,r,m⟩:=RdW.at_ hr (show 96+2*t<ws.length by omega);obtain⟨b',off',u,-,j⟩:=RdW.at_ hr (show 96+2*t+1<ws.length by omega);cases u;rw[<-ce] at m j;obtain⟨x,h⟩:=xq (wd ws (96+2*t));obtain⟨y,f⟩:=xq (wd ws (96+2*t+1));rw[h] at m i k |-;rw[f] at j i k |-;have t0:(0:Int)<=(t:Int):=by omega
 have t8:(t:Int)<8:=by omega
 have w1:IntKind.i64.wrap (2*(t:Int))=2*(t:Int):=kqr _ (by omega);have w2:IntKind.i64.wrap (96+2*(t:Int))=96+2*(t:Int):=kqr _ (by omega);have w3:IntKind.i64.wrap (96+2*(t:Int)+1)=96+2*(t:Int)+1:=kqr _ (by omega);have i1:(0:Int)<=96+2*(t:Int):=by omega
 have i2:(96:Int)+2*(t:Int)<(ws.length:Int):=by omega
 have i3:(0:Int)<=96+2*(t:Int)+1:=by omega
 have i4:(96:Int)+2*(t:Int)+1<(ws.length:Int):=by omega
 have n1:((96:Int)+2*(t:Int)).toNat=96+2*t:=by omega
 have n2:((96:Int)+2*(t:Int)+1).toNat=96+2*t+1:=by omega
 clear hr o q h f ho ht;go_enter func110,ntmps110;go_wp2_with fail
 go_region_held3 (λX:World=>X.cell? ⟨b,a+(96+2*t),none⟩=some (.int .u64 (x:Int))/\X.cell? ⟨b,a+(96+2*t+1),none⟩=some (.int .u64 (y:Int))) (go_keep)
  (first | (go_at_call 117;refine (i.out _).mono ?_;rintro e w5 ⟨⟨v,s,rfl,g⟩,d⟩;have m0:=(d.cell (p:=⟨b,a+(96+2*t),none⟩) r).trans m;have m1:=(d.cell (p:=⟨b,a+(96+2*t+1),none⟩) r).trans j;have l:=hid g;clear g))
 go_wp2;go_ret2;exact⟨⟨v,s,by rw[k.out];rfl,l.out⟩,(kql _ _).drew.trans d⟩
def fq (x:Nat):List Value:=[.int .i64 (x:Int)]
def br (x:Bool):List Value:=[.bool x]
theorem qT(x:Nat):(fq x).length=1:=rfl
theorem ft(x:Bool):(br x).length=1:=rfl
theorem AN(n:Nat):(List.replicate n (0:Int)).flatMap cd=List.replicate n (.int .i64 0):=by
 induction n with
 | zero=>rfl
 | succ n ih=>rw[kjv,kzy,ih,kjv];rfl
theorem vn(n:Nat):(List.replicate n false).flatMap br=List.replicate n (.bool false):=by
 induction n with
 | zero=>rfl
 | succ n ih=>rw[kjv,kzy,ih,kjv];rfl
theorem C5(l:List Int)(k:Nat)(x:Int):(l.set k x).flatMap cd=(l.flatMap cd).set k (.int .i64 x):=by
 have:=eh cd 1 iZ l k 0 (by omega) x (.int .i64 x) (λy _=>rfl)
 simpa using this
theorem AY(l:List Bool)(k:Nat)(x:Bool):(l.set k x).flatMap br=(l.flatMap br).set k (.bool x):=by
 have:=eh br 1 ft l k 0 (by omega) x (.bool x) (λy _=>rfl)
 simpa using this
theorem mq(l:List Int)(k:Nat)(h:k<l.length):(l.flatMap cd)[k]? = some (.int .i64 (l[k]?.getD 0)):=by
 have:=ig cd 1 iZ l k 0 h (by omega)
 simpa [cd,h] using this
theorem ra(l:List Bool)(k:Nat)(h:k<l.length):(l.flatMap br)[k]? = some (.bool (l[k]?.getD false)):=by
 have:=ig br 1 ft l k 0 h (by omega)
 simpa [br,h] using this
theorem EI:(prog.info? 3).map (λi=>(i.zero,i.size,i.bytes))=some (some (.int .i64 0),1,8):=by kernel_rfl
theorem Cc:(prog.info? 4).map (λi=>(i.zero,i.size,i.bytes))=some (some (.bool false),1,1):=by kernel_rfl
open Classical in
theorem BV(h:af ws=0)(h1:slsOk ws=true)(h2:rS ws):ax ws=0:=by simp[ax,h,h1,h2]
open Classical in
theorem rc_sl(h:af ws=0)(h1:slsOk ws=false):ax ws=50:=by simp[ax,h,h1]
open Classical in
theorem Fi(h:af ws=0)(h2:¬ rS ws):ax ws=50:=by simp[ax,h,h2]
theorem kK(l:List Nat)(x:Nat):(l++[x]).flatMap fq=l.flatMap fq++[.int .i64 (x:Int)]:=by simp[fq]
theorem Gp{ys:List Value}(h:w.ownsRow H e 1 (.slice (some ⟨g,0,none⟩) (n+1) c) (n+1) (xs++ys))(hx:xs.length=n):w.ownsRow H e 1 (.slice (some ⟨g,0,none⟩) n c) n xs:=by
 refine⟨by rw[hx,kxn],.inr ?_⟩;rcases h.2 with⟨a,_⟩|⟨g',cap,b,a,f,i,h4,j,l,k⟩
 .cases a
 simp only[Value.slice.injEq,Option.some.injEq,Addr.mk.injEq,and_true,true_and] at a;obtain⟨rfl,rfl⟩:=a;refine⟨g,c,b,rfl,f,i,by omega,j,l,?_⟩;have d:=congrArg (List.take n) k;rw[List.take_take,kxn,kxb (by omega),List.take_left' hx] at d;rw[kxn];exact d
theorem fp(h:w.ownsRow H e sz (.slice A n c) n xs):n<=c:=by obtain⟨A',c',b,a,-⟩:=jh h;cases b;exact a
theorem Gd(h:w.ownsRow H e sz (.slice (some ⟨g,0,none⟩) n c) n xs){p:Addr}(hp:g≠p.block)(u:Value):(w.setCell p u).ownsRow H e sz (.slice (some ⟨g,0,none⟩) n c) n xs:=by
 refine⟨h.1,?_⟩;rcases h.2 with⟨a,_⟩|⟨k,d,b,a,i,j,f⟩
 .cases a
 refine .inr ⟨k,d,b,a,i,?_,f⟩;simp only[Value.slice.injEq,Option.some.injEq,Addr.mk.injEq,and_true,true_and] at a;obtain⟨rfl,rfl⟩:=a;exact (kka w p u g hp).trans j
def Hx (ws:List Nat) (B:Nat) (e:Ending) (w':World):Prop:=
 (ax ws=0/\∃g c,e=.returned (.tuple #[.slice (some ⟨g,0,none⟩) ws.length c,.int .i64 0])/\w'.ownsRow B 4 1 (.slice (some ⟨g,0,none⟩) ws.length c) ws.length ((seenL ws).flatMap br)) \/
 (ax ws=50/\e=.returned (.tuple #[.slice none 0 0,.int .i64 50]))
theorem uh(A L:Option Addr)(ws:List Nat)(c cl n:Nat)(l:List Bk)(w:World)(hn:ws.length=n)(hm:n<=9223372036854775807)(h0:af ws=0)(hl:aa ws=l)(hr:RdW w w.heap.size A ws)(hrl:RdB w w.heap.size L l)(ho:∀x∈ws,x<18446744073709551616):
 Calls prog 63 #[.slice A n c,.slice L l.length cl] w λe w'=>Hx ws w.heap.size e w'/\Below w.heap.size w w':=by
 subst hn;have HR:=hid hr;have HL:=hid hrl;have HO:=hid ho;obtain⟨hs,-⟩:=ao h0;have Nn:=fP ws hs;obtain⟨Ny,hb2,-⟩:=Nn;have Nd:Hid (∀k,wd ws k<18446744073709551616):=hid (fd ho);have Jq:=hid (Fh A ws c ws.length w rfl hm hr ho);unfold Hn at Jq;have Kb:=hid h0;clear hr hrl ho;cases Ji:slsOk ws
 .have he:=k8 hs Ji;have hq:ew ws=[]:=by simp[ew,he]
  rw[he,hq] at Jq;have HV:=hid (rc_sl h0 Ji);clear hs Ji he hq h0;go_enter func63,ntmps63;go_wp2_with fail;refine Jq.out.mono ?_;rintro e w1 ⟨⟨A1,c1,rfl,-,-⟩,U⟩;go_wp2;go_ret2;exact⟨.inr ⟨HV.out,rfl⟩,U⟩
 obtain⟨g1,g2⟩:=gI hs Ji;rw[g1,g2,eg] at Jq;have Nj:=hid Ji;obtain⟨i0,hi,Le,Mn,Lh⟩:=kzt EI;obtain⟨i1,hj,Ml,Lq,Lm⟩:=kzt Cc;have q:=hid (And.intro hi (And.intro Le (And.intro Mn Lh)));have Kg:=hid (And.intro hj (And.intro Ml (And.intro Lq Lm)));have Na:=fe ws;rw[hl] at Na;have Mw:=hid hl;have Lg:Hid (∀k (h:k<l.length),l[k].kind=1->∃a t:Nat,l[k].at_=(a:Int)/\l[k].typ=(t:Int)/\a<ws.length/\t<128):=hid (by
  subst hl;intro k h h1;obtain⟨a,e1,e2⟩:=ju h0 h h1;refine⟨a,wd ws a/512%128,by rw[e1];rfl,by rw[e1];rfl,e2.2.2.1,kz3 _ (by omega)⟩)
 clear hl;clear hs Ji g1 g2 hi Le Mn Lh hj Ml Lq Lm h0;go_enter func63,ntmps63;go_wp2_with fail;refine Jq.out.mono ?_;rintro e w1 ⟨⟨A1,c1,rfl,Ma,-⟩,U⟩;have Nk:=hid Ma;obtain⟨W2,Ky,D,Jr⟩:=run_make_full (P:=prog) w1 w1.heap.size 42 3 i0 (.int .i64 0) 1 underlying42 q.out.1 q.out.2.1 q.out.2.2.1 .i64 .i64 ws.length (by rw[q.out.2.2.2];omega) (by unfold maxLen;omega) (kqg _);have Mi:W2.ownsRow w1.heap.size 3 1 (.slice (some ⟨w1.heap.size,0,none⟩) ws.length ws.length) ws.length ((qj ws.length (l.take 0)).flatMap cd):=by show W2.ownsRow _ _ _ _ _ ((List.replicate ws.length (0:Int)).flatMap cd);rw[AN,<-toList_madeCells_one];have:=D;rw[kxn] at this;exact this
 have Je:=(kql w1.heap.size w1).grown Jr (kqg _) (λk hk=>by cases hk);have Ni:=hid Mi;have Mf:=hid U;have HB2:=hid (U.trans (Je.mono U.size));have Ly:=hid Je;have Ll:=hid Nk.out;have Kh:=U.size;have hz2w:=Je.size;clear Ma D Jr Mi Je U;go_wp2_with fail;clear Ky;go_loopw [34] (λi wr=>∃k:Nat,k<=l.length/\i=.int .i64 k/\wr.ownsRow w1.heap.size 3 1 (.slice (some ⟨w1.heap.size,0,none⟩) ws.length ws.length) ws.length ((qj ws.length (l.take k)).flatMap cd)/\Below w1.heap.size w1 wr) (λi _=>l.length-(intOf i).toNat)
 case atStart=>exact⟨0,kqy _,rfl,Ni.out,Ly.out⟩
 obtain⟨k,hk,rfl,d,hB⟩:=hrel;have hz:=hB.size;by_cases La:k<l.length
 .have Jl:=Mf.out.trans (hB.mono Kh);obtain⟨b,off,rfl,Nm,q0,q1,q2,q3,q4,q5⟩:=RdB.at_ (Rd.below HL.out Jl) La;have V:=hid (BC (n:=ws.length) La);have Kz:=hid (Lg.out k La);have Kq:=pb ws.length (l.take k);obtain⟨x,hx⟩:=xq (l[k]);obtain⟨tl,J⟩:=xq (qj ws.length (l.take k));rw[hx] at q0 q1 q2 q3 q4 q5 V Kz;rw[J] at V d Kq;obtain⟨xa,xs,xk,xt,xm,xn⟩:=x;dsimp only at q0 q1 q2 q3 q4 q5 V Kz;have hlm:(k:Int)<(l.length:Int):=by omega
  clear hx J;by_cases T:xk=1
  .obtain ⟨a,t,ha,ht,Kp,Mo⟩:=Kz.out T;subst ha ht;have Nw:(xk==1)=true:=by rw[kqx];exact T
   have Ke:=hid (V.out.trans (if_pos T));simp only[kqk] at Ke;have hw1:IntKind.i64.wrap ((t:Int)+1)=(t:Int)+1:=kqr _ (by omega);have Nz:(a:Int)<(ws.length:Int):=by omega
   have Np:(0:Int)<=(a:Int):=by omega
   have Eq:=d.alloc (.cells #[.int .i64 (a:Int),.int .i64 xs,.int .i64 xk,.int .i64 (t:Int),.bool xm,.int .u64 (xn:Int)] 55);have c0:=(d.cellAt a (by omega)).trans (mq tl a (by omega));have f0:=d.frozenAt a;have c0':=(Eq.cellAt a (by omega)).trans (mq tl a (by omega));have f0':=Eq.frozenAt a;obtain⟨u,hu⟩:=xq (tl[a]?.getD 0);rw[hu] at c0 c0';have hgw:=(d.lt _ rfl).2;have Ks:=hid d;clear Eq;clear T hu V d;go_wp2;go_roundw
   case rel =>
    refine⟨k+1,by omega,by go_num,?_,(hB.setCell (p:=⟨w1.heap.size,a,none⟩) (kqg _) _).alloc (by rw[kxw];exact hz) _⟩;rw[Ke.out,C5];exact (Ks.out.stored a _).1.alloc _
   case measure=>simp[intOf];omega
  have Nw:(xk==1)=false:=by rw[kqi];exact T
  have Ke:=hid (V.out.trans (if_neg T));have Ks:=hid d;clear T V d;go_wp2;go_roundw
  case rel=>exact⟨k+1,by omega,by go_num,by rw[Ke.out];exact Ks.out.alloc _,hB.alloc hz _⟩
  case measure=>simp[intOf];omega
 rename World=>wA
 rw[kzg (by omega)] at d;obtain⟨tl,J⟩:=xq (qj ws.length l);have Kq:=pb ws.length l;rw[J] at d Kq;have Lw:Hid (∀a,tb ws a=tl[a]?.getD 0):=hid λa=>by unfold tb;rw[Mw.out,J]
 have Ko:=hid d;have Jl:=Mf.out.trans (hB.mono Kh);have Jg:=hid Jl;have Ja:=Jl.size;have Nc:=hid (Rd.below Ll.out hB);clear J d Jl;obtain⟨W3,Ky,D,Jr⟩:=run_make_full (P:=prog) wA wA.heap.size 114 4 i1 (.bool false) 1 underlying114 Kg.out.1 Kg.out.2.1 Kg.out.2.2.1 .i64 .i64 ws.length (by rw[Kg.out.2.2.2];omega) (by unfold maxLen;omega) (kqg _);have Kx:W3.ownsRow wA.heap.size 4 1 (.slice (some ⟨wA.heap.size,0,none⟩) ws.length ws.length) ws.length ((List.replicate ws.length false).flatMap br):=by rw[vn,<-toList_madeCells_one];have:=D;rw[kxn] at this;exact this
 have Ng:=hid Kx;have Nh:=hid ((kql wA.heap.size wA).grown Jr (kqg _) (λk hk=>by cases hk));have Nr:wA.heap.size<W3.heap.size:=by have:=Kx.lt wA.heap.size rfl;exact this.2
 clear D Jr Kx;go_wp2_with fail;clear Ky;go_loopw [12,54] (λv i w4=>∃k:Nat,k<=16/\i=.int .i64 k/\w4.ownsRow W3.heap.size 3 1 v (tz ws k).length ((tz ws k).flatMap fq)/\Below W3.heap.size W3 w4) (λ_ i _=>16-(intOf i).toNat)
 case atStart=>exact⟨0,kqy _,rfl,kq3 _ _ _ _,kql _ _⟩
 obtain⟨k2,hk2,rfl,d,Jn⟩:=hrel;have Ku:=Jn.size;have Jb:=Nh.out.trans (Jn.mono (kjq Nr));by_cases Lo:k2<16
 .obtain ⟨b,off,rfl,Nm,q0,q1,q2⟩:=RdS.at_ (Rd.below Nc.out (Jb.mono hz)) (show k2<(slL ws).length by rw[eg];exact Lo);rw[mt] at q0 q1 q2;have E:=hid (Ag ws k2);have Ka:=tX ws k2;obtain⟨-,-,R,Jt⟩:=dt (wd ws (112+k2));have C:slAt ws k2=dc (wd ws (112+k2)):=rfl;rw[<-C] at R Jt;obtain⟨s,Mh⟩:=xq (slAt ws k2);rw[Mh] at q0 q1 q2 E R Jt;obtain⟨m,Li⟩:=xq (tz ws k2);rw[Li] at d E Ka;obtain⟨sg,su,sa⟩:=s;dsimp only at q0 q1 q2 E R Jt;obtain⟨u,rfl⟩:=kq5 R;rw[kqk] at E;have hk16:(k2:Int)<16:=by omega
  have hk00:(0:Int)<=(k2:Int):=by omega
  clear C Mh Li Jb R;cases su
  .have Ld:=hid (E.out.trans (by simp:m++(if false=true then [u] else [])=m));clear E;go_wp2;go_roundw
   case rel=>exact⟨k2+1,by omega,by go_num,by rw[Ld.out];exact d.alloc _,Jn.alloc Ku _⟩
   case measure=>simp[intOf];omega
  have Ld:=hid (show tz ws (k2+1)=m++[u] from E.out);clear E;go_wp2_with (at_builtin;refine kzn _ rfl _ _ 42 rfl W3.heap.size 3 i0 _ 1 8 underlying42 q.out.1 q.out.2.1 q.out.2.2.1 q.out.2.2.2 rfl (by decide) _ _ _ rfl ((d.alloc _).alloc _) ⟨_,0,none⟩ 1 1 [.int .i64 (u:Int)] rfl rfl (kU _ _ _ (kqn _ _)) (by simp[Value.oneCell']) (by unfold maxLen;omega) (by omega) (by simp;omega) ?_;intro v1 w2 y X _;have O:=aw (Jn.alloc Ku (.cells #[.int .i64 sg,.bool true,.int .i64 (u:Int)] 52)) (by simp;omega) (d.alloc _) X);go_roundw
  case rel=>exact⟨k2+1,by omega,by go_num,by rw[Ld.out,kqw,kK];exact y,O⟩
  case measure=>simp[intOf];omega
 obtain rfl:k2=16:=by omega
 have Lc:=Wk.start ws;have Ka:=tX ws 16;obtain⟨td0,Km⟩:=xq (tz ws 16);rw[Km] at Lc d Ka;have Nq:=hid Lc;have Me:=hid d;have Lr:=hid (aj Ng.out Jn (kqg _));have Y:mW (List.replicate ws.length false)=ws.length:=by simp[mW]
 have Nx:=hid Y;have Mt:=hid Jb;clear Km Lc d Y Jb;go_wp2_with fail;go_loopg [12] 30000 (λg v w5=>∃(o:List Bool) (I:List Nat),g<=30000/\Hid (Wk ws o I)/\Hid (mW o*9+I.length<=g)/\w5.ownsRow wA.heap.size 4 1 (.slice (some ⟨wA.heap.size,0,none⟩) ws.length ws.length) ws.length (o.flatMap br)/\w5.ownsRow W3.heap.size 3 1 v I.length (I.flatMap fq)/\W3.heap.size<=w5.heap.size/\Below wA.heap.size wA w5)
 case atStart=>exact⟨List.replicate ws.length false,td0,kqg _,Nq.out,by show _<=_;rw[Nx.out];omega,Lr.out,Me.out,Ku,Mt.out⟩
 obtain⟨o,I,hg30,G,Js,B,f,Ls,O⟩:=hrel;have hz5:=O.size;rcases List.eq_nil_or_concat I with rfl|⟨td,a,rfl⟩
 .have Ki:=G.out.end_;have HV:=hid (BV Kb.out Nj.out Ki.1);have Mr:=hid G.out.seenL;have Jv:=hid B;rw[kxx] at f;obtain⟨A6,c6,rfl⟩:=aE f;have Kf:=hid (Jg.out.trans (O.mono Ja));clear Ki B f Js G;go_wp2;go_ret2;exact⟨.inl ⟨HV.out,wA.heap.size,ws.length,rfl,by rw[<-Mr.out];exact aB Jv.out Ja⟩,Kf.out⟩
 simp only[List.concat_eq_append,kqw,List.length_singleton] at G Js f;have N:=Js.out;rw[kK] at f;obtain⟨gT,cT,rfl⟩:∃g c,u12=.slice (some ⟨g,0,none⟩) (td.length+1) c:=by obtain⟨g,c,h1,_⟩:=f.form (by omega);exact⟨g,c,h1⟩
 have hcT:=fp f;have Y:=bE fq 1 qT td;rw[kxn] at Y;have ct:=(f.cellAt td.length (by omega)).trans (by rw[kxj (by omega),Y,Nat.sub_self];rfl:_=some (.int .i64 (a:Int)));have Kn:=Gp f Y;have hgT:=f.lt gT rfl;have hml:td.length<=30000:=by omega
 have hwl:IntKind.i64.wrap ((td.length:Int)+1-1)=(td.length:Int):=by rw[kqr _ (by omega)];omega
 have hd0:decide ((0:Int)<(td.length:Int)+1)=true:=by rw[kqo];omega
 have t0:(0:Int)<=(td.length:Int):=by omega
 have t1:(td.length:Int)<(td.length:Int)+1:=by omega
 have t2:(td.length:Int)<=(cT:Int):=by omega
 have Kf:=hid (Jg.out.trans (O.mono Ja));have Nb:=hid f;have Kk:=hid Kn;clear N Y Kn f;by_cases Kp:a<ws.length
 .have Lv:=aj Ko.out O (kqg _);have ca:=(Lv.cellAt a (by omega)).trans (mq tl a (by omega));have Lj:=Lw.out a;rw[<-Lj] at ca;have Ms:decide ((ws.length:Int)<=(a:Int))=false:=by rw[kqh];omega
  have Mp:decide (ws.length<=a)=false:=by rw[kqh];omega
  have Np:(0:Int)<=(a:Int):=by omega
  have Nz:(a:Int)<(ws.length:Int):=by omega
  clear Lv Lj;by_cases S:tb ws a=0
  .have HV:=hid (Fi Kb.out (G.out.bad S));rw[S] at ca;clear S B;go_wp2;go_ret2;exact⟨.inr ⟨HV.out,rfl⟩,Kf.out⟩
  obtain⟨Jd,Kc⟩:=iA Kb.out S;have Lu:=hid Jd;have Nf:(tb ws a==0)=false:=by rw[kqi];exact S
  have Ka:=G.out.hlen;have cs:=(B.cellAt a (by omega)).trans (ra o a (by omega));have Qa:=hid S;obtain⟨t,ht⟩:∃t:Nat,(ah (wd ws a)).typ=(t:Int):=⟨wd ws a/512%128,rfl⟩;have Mo:t<8:=by have h7:=(bn _).1 (eJ Jd.2.2.2.1);have h5:=Jd.2.2.2.2.1;omega
  have Ns:Hid (flds ws a=aX (wd ws (96+2*t)) (wd ws (96+2*t+1))):=hid (by unfold flds;rw[ht];rfl);rw[ht] at Kc;rw[Kc] at ca Nf;have Mz:=hid Kc;have hwt:IntKind.i64.wrap ((t:Int)+1-1)=(t:Int):=by rw[kqr _ (by omega)];omega
  clear Jd Kc S ht;cases C:o[a]?.getD false
  .rw[C] at cs;have fs:=B.frozenAt a;have Lt:o[a]? = some false:=by rw[kqj (by omega)] at C |-;rw[kq2] at C;rw[C]
   have Mc:=hid (G.out.new_ Qa.out);have My:=hid (vT Lt);have E:=hid (show (wr.setCell ⟨wA.heap.size,a,none⟩ (.bool true)).ownsRow wA.heap.size 4 1 (.slice (some ⟨wA.heap.size,0,none⟩) ws.length ws.length) ws.length ((o.set a true).flatMap br) by
    rw[AY];exact (B.stored a (.bool true)).1)
   have Jw:=O.setCell (p:=⟨wA.heap.size,a,none⟩) (kqg _) (.bool true);have Mb:=hid Jw;have Ju:(wr.setCell ⟨wA.heap.size,a,none⟩ (.bool true)).ownsRow W3.heap.size 3 1 (.slice (some ⟨gT,0,none⟩) td.length cT) td.length (td.flatMap fq):=Gd Kk.out (p:=⟨wA.heap.size,a,none⟩) (by show gT≠wA.heap.size;omega) (.bool true);have Lp:=hid Ju;have c6:=(aj Ko.out Jw (kqg _)).cellAt a (by omega) |>.trans (mq tl a (by omega));rw[<-Lw.out a,Mz.out] at c6;have Jf:=hid (λW (h:RdW W W.heap.size A ws)=>vC A ws c ws.length t W rfl (by omega) Ny Mo h HO.out);unfold E5 at Jf;rw[<-Ns.out] at Jf;clear B Nb;have Lx:=pr ws a;have Kl:Hid (∀j,j<(flds ws a).length->a+2+j<ws.length):=hid λj hj=>tH Lu.out hj;have Lz:Hid (∀j,lP ws a (j+1)=lP ws a j++(if (flds ws a)[j]? = some 3/\wd ws (a+2+j)≠0 then [min (wd ws (a+2+j)) 2048] else [])):=hid λj=>zZ ws a j;have Nv:Hid (∀j,(lP ws a j).length<=j):=hid λj=>DL ws a j;have No:=hid (HR.out.up (Jg.out.trans (Jw.mono Ja)) (Jg.out.trans (Jw.mono Ja)).size);obtain⟨F,hF⟩:=xq (flds ws a);rw[hF] at Jf Mc Lx Kl Lz;have hw2:IntKind.i64.wrap ((a:Int)+2)=(a:Int)+2:=kqr _ (by omega);have N:=Js.out;clear hF Jw Ju C Lt;go_wp2_with fail
   refine (Jf.out _ No.out).mono ?_;rintro e w7 ⟨⟨A7,c7,rfl,Mj⟩,Jy⟩;have Nl:=hid Mj;have Mx:=hid (Mb.out.trans (Jy.mono Mb.out.size));have Nu:=hid (aj E.out Jy (kqg _));have Mu:=hid (aj Lp.out Jy (kqg _));have Lk:W3.heap.size<=w7.heap.size:=by have:=Jy.size;rw[kxw] at this;omega
   clear Jy Mj cs ca c6 ct fs;go_wp2_with fail;go_loopw [12,110] (λv i w8=>∃j:Nat,j<=F.length/\i=.int .i64 j/\w8.ownsRow W3.heap.size 3 1 v (td++lP ws a j).length ((td++lP ws a j).flatMap fq)/\w8.ownsRow wA.heap.size 4 1 (.slice (some ⟨wA.heap.size,0,none⟩) ws.length ws.length) ws.length ((o.set a true).flatMap br)/\(∃H,w8.ownsRow H 5 1 (.slice A7 F.length c7) F.length (F.flatMap aJ))/\W3.heap.size<=w8.heap.size/\Below wA.heap.size wA w8) (λ_ i _=>F.length-(intOf i).toNat)
   case atStart=>exact⟨0,kqy _,rfl,by rw[show td++lP ws a 0=td from kz1 td];exact Mu.out,Nu.out,⟨_,Nl.out⟩,Lk,Mx.out⟩
   obtain⟨j,hj,rfl,f,B,⟨H8,Jm⟩,Jp,Q⟩:=hrel;have Mm:=Q.size;have Kv:(td++lP ws a j).length<=td.length+j:=by rw[kqw];have:=Nv.out j;omega
   by_cases Jo:j<F.length
   .obtain ⟨bF,oF,rfl,hbF,y0⟩:=RdY.at_ (show RdY wr wr.heap.size A7 F from Rd.of_own Jm) Jo;have Ln:=Kl.out j Jo;have Mg:=HR.out.up (Jg.out.trans (Q.mono Ja)) (Jg.out.trans (Q.mono Ja)).size;obtain⟨bW,oW,rfl,hbW,x0⟩:=RdW.at_ Mg Ln;rw[<-ce] at x0;have Jz:=hid (Lz.out j);rw[kqj Jo] at Jz;have Kw:=Nd.out (a+2+j);have Kj:=hid (eQ Jm f (by decide));obtain⟨kd,Lf⟩:=xq (F[j]);obtain⟨x,hx⟩:=xq (wd ws (a+2+j));obtain⟨m,Kt⟩:=xq (td++lP ws a j);rw[Lf] at y0 Jz;rw[hx] at x0 Jz Kw;rw[Kt] at f Kv;have Jh:Hid (td++lP ws a (j+1)=m++(if some kd=some 3/\x≠0 then [min x 2048] else [])):=hid (by rw[Jz.out,<-kkj,Kt]);have hji:(j:Int)<(F.length:Int):=by omega
    have hj0:(0:Int)<=(j:Int):=by omega
    have hw3:IntKind.i64.wrap ((a:Int)+2+(j:Int))=(a:Int)+2+(j:Int):=kqr _ (by omega);have i0':(0:Int)<=(a:Int)+2+(j:Int):=by omega
    have i1':(a:Int)+2+(j:Int)<(ws.length:Int):=by omega
    have it':((a:Int)+2+(j:Int)).toNat=a+2+j:=by omega
    have hmm:m.length<=40000:=by omega
    have r:=hid f;have K:=hid B;have Jc:=hid Jm;have HXL:=hid Kw;clear Jz Lf hx Kt Mg B Jm Ln Kw;by_cases Z:kd=3
    .have e3:((kd:Int) != 3)=false:=by rw[kqq];omega
     have e3n:(kd != 3)=false:=by rw[kqq];exact Z
     by_cases Jj:x=0
     .have e0:((x:Int)==0)=true:=by rw[kqx];omega
      have e0n:(x==0)=true:=by rw[kqx];exact Jj
      have HY:=hid (show td++lP ws a (j+1)=m by rw[Jh.out,if_neg (λh=>h.2 Jj),kz1]);clear Z Jj Jh f;go_wp2;go_roundw
      case rel=>exact⟨j+1,by omega,by go_num,by rw[HY.out];exact r.out,K.out,⟨_,Jc.out⟩,Jp,Q⟩
      case measure=>simp[intOf];omega
     have e0:((x:Int)==0)=false:=by rw[kqi];omega
     have e0n:(x==0)=false:=by rw[kqi];exact Jj
     have HY:=hid (show td++lP ws a (j+1)=m++[min x 2048] by rw[Jh.out,if_pos ⟨by rw[Z],Jj⟩]);clear Z Jj Jh;have Lb:=λ(z:Int) (h0:0<=z) (h1:z<=2048)=>show IntKind.i64.wrap z=z from kqr _ (by omega);have Kd:min x 2048=x/\x<=2048\/min x 2048=2048/\2048<x:=by omega
     rcases Kd with⟨N,Mv⟩|⟨N,Mv⟩
     .rw[N] at HY;have hwx:=Lb (x:Int) (by omega) (by omega);have hmin:(if (x:Int)<2048 then (x:Int) else 2048)=(x:Int):=by split<;>omega
      clear Lb N;go_wp2_with (at_builtin;refine kzn _ rfl _ _ 42 rfl W3.heap.size 3 i0 _ 1 8 underlying42 q.out.1 q.out.2.1 q.out.2.2.1 q.out.2.2.2 rfl (by decide) _ _ _ rfl (r.out.alloc _) ⟨_,0,none⟩ 1 1 [.int .i64 (x:Int)] rfl rfl (bY _ _ _) (by simp[Value.oneCell']) (by unfold maxLen;omega) (by omega) (by simp;omega) ?_;intro v1 w9 y X _;have Jk:=hid y;have M:=hid X;clear y X);go_roundw
      case rel =>
       have Kr:=M.out.size;rw[kqn] at Kr;refine⟨j+1,by omega,by go_num,by rw[HY.out,kqw,kK];exact Jk.out,(K.out.alloc _).kept M.out (.inr ?_),⟨_,(Jc.out.alloc _).kept M.out Kj.out⟩,by omega,(Q.alloc Mm _).grown M.out (by rw[kqn];omega) (λk hk=>by have:=(r.out.lt k hk).1;omega)⟩;intro h;have:=(r.out.lt wA.heap.size h.symm).1;omega
      case measure=>simp[intOf];omega
     rw[N] at HY;have hxi1:(2048:Int)<(x:Int):=by omega
     have hxi2:¬ (x:Int)<2048:=by omega
     have hxi3:¬ (x:Int)<=2048:=by omega
     have hxi4:¬ x<2048:=by omega
     have hxi5:¬ x<=2048:=by omega
     clear Lb N;go_wp2_with (at_builtin;refine kzn _ rfl _ _ 42 rfl W3.heap.size 3 i0 _ 1 8 underlying42 q.out.1 q.out.2.1 q.out.2.2.1 q.out.2.2.2 rfl (by decide) _ _ _ rfl (r.out.alloc _) ⟨_,0,none⟩ 1 1 [.int .i64 2048] rfl rfl (bY _ _ _) (by simp[Value.oneCell']) (by unfold maxLen;omega) (by omega) (by simp;omega) ?_;intro v1 w9 y X _;have Jk:=hid y;have M:=hid X;clear y X);go_roundw
     case rel =>
      have Kr:=M.out.size;rw[kqn] at Kr;refine⟨j+1,by omega,by go_num,by rw[HY.out,kqw,kK];exact Jk.out,(K.out.alloc _).kept M.out (.inr ?_),⟨_,(Jc.out.alloc _).kept M.out Kj.out⟩,by omega,(Q.alloc Mm _).grown M.out (by rw[kqn];omega) (λk hk=>by have:=(r.out.lt k hk).1;omega)⟩;intro h;have:=(r.out.lt wA.heap.size h.symm).1;omega
     case measure=>simp[intOf];omega
    have e3:((kd:Int) != 3)=true:=by rw[kqt];omega
    have e3n:(kd != 3)=true:=by rw[kqt];exact Z
    have HY:=hid (show td++lP ws a (j+1)=m by rw[Jh.out,if_neg (λh=>Z (Option.some.inj h.1)),kz1]);clear Z Jh f;go_wp2;go_roundw
    case rel=>exact⟨j+1,by omega,by go_num,by rw[HY.out];exact r.out,K.out,⟨_,Jc.out⟩,Jp,Q⟩
    case measure=>simp[intOf];omega
   obtain rfl:j=F.length:=by omega
   have r:=hid f;have K:=hid B;have hfs:=My.out;clear f B Jm;go_wp2;go_roundg (gk-1)
   case rel=>exact⟨o.set a true,td++lP ws a F.length,by omega,Mc.out,by show _<=_;omega,K.out,r.out,Jp,Q⟩
   case measure=>omega
  rw[C] at cs;have Nt:=hid (G.out.old (show o[a]? = some true by
   rw[kqj (by omega)] at C |-;rw[kq2] at C;rw[C]))
  have Jv:=hid B;have N:=Js.out;clear B C G;go_wp2;go_roundg (gk-1)
  case rel=>exact⟨o,td,by omega,Nt.out,by show _<=_;omega,Jv.out,Kk.out,Ls,O⟩
  case measure=>omega
 have Ms:decide ((ws.length:Int)<=(a:Int))=true:=by rw[kqo];omega
 have Mp:decide (ws.length<=a)=true:=by rw[kqo];omega
 have HV:=hid (Fi Kb.out (G.out.bad (by
  by_cases h:tb ws a=0
  .exact h
  exact absurd (nL h) Kp)))
 clear B Kp;go_wp2;go_ret2;exact⟨.inr ⟨HV.out,rfl⟩,Kf.out⟩
def fB (S:List Bool) (k:Nat):List Int:=((List.range k).filter λa=>S[a]?.getD false).map λa:Nat=>(a:Int)
theorem rX(S:List Bool)(k:Nat):fB S (k+1)=fB S k++(if S[k]?.getD false=true then [(k:Int)] else []):=by unfold fB;rw[kj7,kjl,kxa];congr 1;cases a:S[k]?.getD false<;>simp[a]
theorem vw(S:List Bool)(k:Nat):(fB S k).length<=k:=by unfold fB;rw[kqs];have:=kxi (λa=>S[a]?.getD false) (List.range k);rwa [kx4] at this
theorem qL(ws:List Nat):(seenL ws).length=ws.length:=by simp[seenL]
theorem j8(h:a<ws.length):(seenL ws)[a]?.getD false=true↔Rch ws a:=by unfold seenL;rw[kzh,kxq h];simp
theorem cU(h:ax ws=0):aR ws=fB (seenL ws) ws.length:=by
 unfold aR fB;rw[if_pos h];congr 1;refine List.filter_congr λa d=>?_;have b:=j8 (ws:=ws) (kq8.1 d);cases c:(seenL ws)[a]?.getD false
 .rw[c] at b
  simpa using b
 rw[c] at b
 simpa using b
theorem qd(h:ax ws≠0):aR ws=[]:=by unfold aR;rw[if_neg h]
theorem oY(h:af ws≠0):ax ws=af ws:=by unfold ax;rw[if_neg h]
def y6 (ws:List Nat) (e:Ending) (w':World):Prop:=∃A c,e=.returned (.tuple #[.slice A (aR ws).length c,.int .i64 (ax ws)])/\RdI w' w'.heap.size A (aR ws)/\(aR ws).length<=c
theorem ri{r:Int}(h1:ax ws=r)(h0:r≠0):y6 ws (.returned (.tuple #[.slice none 0 0,.int .i64 r])) w':=by have a:=qd (ws:=ws) (by rw[h1];exact h0);exact⟨none,0,by rw[h1,a];rfl,by rw[a];exact Rd.nil_,by rw[a];exact kqg _⟩
theorem ov(A:Option Addr)(ws:List Nat)(c n:Nat)(w:World)(hn:ws.length=n)(hm:n<=9223372036854775807)(G:RdW w w.heap.size A ws)(ho:∀x∈ws,x<18446744073709551616):
 Calls prog 24 #[.slice A n c] w λe w'=>y6 ws e w'/\Below w.heap.size w w':=by
 subst hn;have HR:=hid G;have C:=hid (Co A ws c ws.length w rfl hm G ho);unfold GM at C;have HO:=hid ho;clear G ho;by_cases y:af ws=0
 .obtain ⟨l,hl⟩:∃l,aa ws=l:=⟨_,rfl⟩;have u:=hid (λL cl W (h:RdW W W.heap.size A ws) (h2:RdB W W.heap.size L l)=>uh A L ws c cl ws.length l W rfl hm y hl h h2 HO.out);unfold Hx at u;rw[y,hl] at C;have t:=fP ws (ao y).1;have hlen:=t.2.1;have hlen1:=t.1;by_cases F:ax ws=0
  .have J:=hid (And.intro F (cU F));have N:=hid (qL ws);obtain⟨i0,hi,K,X,P⟩:=kzt tI;have HI:=hid hi;have Ji:=hid K;have Jh:=hid X;have Ja:=hid P;clear hi K X P;clear y hl t F;generalize seenL ws=S at u J N;have Jd:=hid (λk=>rX S k);have Je:=hid (λk=>vw S k);go_enter func24,ntmps24;go_wp2_with fail;refine C.out.mono ?_;rintro e Y ⟨⟨Z,c1,rfl,p,-⟩,a⟩;have s:=hid a;have D:=hid (HR.out.up a a.size);have B:=hid p;clear p a;go_wp2_with fail;refine (u.out Z _ Y D.out B.out).mono ?_;rintro e U ⟨⟨-,g,c2,rfl,f⟩|⟨E,-⟩,j⟩
   .have M:=hid (s.out.trans (j.mono s.out.size));have HS:=hid f;have hgE:=(f.lt g rfl).2;clear f j;go_wp2_with fail;go_loopw [7,29] (λv i wr=>∃k:Nat,k<=ws.length/\i=.int .i64 k/\wr.ownsRow U.heap.size 3 1 v (fB S k).length ((fB S k).flatMap cd)/\Below U.heap.size U wr) (λ_ i _=>ws.length-(intOf i).toNat)
    case atStart=>exact⟨0,kqy _,rfl,kq3 _ _ _ _,kql _ _⟩
    obtain⟨k,hk,rfl,d,R⟩:=hrel;have F:=R.size;by_cases Jg:k<ws.length
    .have c0:=((aj HS.out R (kqg _)).cellAt k (by omega)).trans (ra S k (by rw[N.out];exact Jg));have o:=hid (Jd.out k);have Eq:=Je.out k;obtain⟨m,Q⟩:=xq (fB S k);rw[Q] at d o Eq;obtain⟨b,hb⟩:=xq (S[k]?.getD false);rw[hb] at c0 o;have hlm:(k:Int)<(ws.length:Int):=by omega
     have hl0:(0:Int)<=(k:Int):=by omega
     clear Q hb;cases b
     .have I:=hid (show fB S (k+1)=m by rw[o.out];simp);clear o;go_wp2;go_roundw
      case rel=>exact⟨k+1,by omega,by go_num,by rw[I.out];exact d,R⟩
      case measure=>simp[intOf];omega
     have I:=hid (show fB S (k+1)=m++[(k:Int)] by rw[o.out];rfl);clear o;go_wp2_with (at_builtin;refine kzn _ rfl _ _ 42 rfl U.heap.size 3 i0 _ 1 8 underlying42 HI.out Ji.out Jh.out Ja.out rfl (by decide) _ _ _ rfl (d.alloc _) ⟨_,0,none⟩ 1 1 [.int .i64 (k:Int)] rfl rfl (bY _ _ _) (by simp[Value.oneCell']) (by unfold maxLen;omega) (by omega) (by simp;omega) ?_;intro v1 w2 H Jc _;have j:=aw R F d Jc);go_roundw
     case rel=>exact⟨k+1,by omega,by go_num,by rw[I.out,kqw,bP];exact H,j⟩
     case measure=>simp[intOf];omega
    obtain rfl:k=ws.length:=by omega
    obtain⟨A2,c3,rfl,O,z⟩:=jh d;have V:=hid z;have Jf:=hid O;clear z d O;go_wp2;go_ret2;exact⟨⟨A2,c3,by rw[J.out.1,J.out.2];rfl,by rw[J.out.2];exact V.out,by rw[J.out.2];exact Jf.out⟩,M.out.trans (R.mono M.out.size)⟩
   exfalso;rw[J.out.1] at E;exact absurd E (by decide)
  have T:=hid F;clear y hl t F;go_enter func24,ntmps24;go_wp2_with fail;refine C.out.mono ?_;rintro e Y ⟨⟨Z,c1,rfl,p,-⟩,a⟩;have s:=hid a;have D:=hid (HR.out.up a a.size);have B:=hid p;clear p a;go_wp2_with fail;refine (u.out Z _ Y D.out B.out).mono ?_;rintro e U ⟨⟨E,-⟩|⟨E,rfl⟩,j⟩
  .exact absurd E T.out
  have Jb:=s.out.trans (j.mono s.out.size);have H9:=hid E;clear E;go_wp2;go_ret2;exact⟨ri H9.out (by decide),Jb⟩
 have T:=hid (And.intro (oY y) y);obtain⟨r,G⟩:=xq (af ws);rw[G] at C T;have hn1:(r != 0)=true:=by rw[kqt,<-G];exact y
 obtain⟨q,hq⟩:=xq ((aa ws).length);rw[hq] at C;clear y G hq;go_enter func24,ntmps24;go_wp2_with fail;refine C.out.mono ?_;rintro e Y ⟨⟨Z,c1,rfl,-,-⟩,a⟩;go_wp2;go_ret2;exact⟨ri T.out.1 T.out.2,a⟩
end Go.Proofs.YtpcajamacpbjcaaGreat
