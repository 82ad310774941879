/- Texts laid together: RchP Hnd Hnd2 Flds Rch Rcd. -/
import Derived.Test.YtpcajamacpbjcaaGreatZKHead
import Derived.Test.YtpcajamacpbjcaaGreatZKHeap
import Derived.Deep.RegionHeld3
import Derived.Deep.DrawnRows
import Derived.Laws.OwnMore
set_option maxHeartbeats 16000000
set_option maxRecDepth 100000
set_option linter.all false
namespace Go.Proofs.YtpcajamacpbjcaaGreat
open Lib (hid)
variable {fn:Func}{seen:List Bool}{todo ws:List Nat}{xs:List Value}{B H a b c g i j k n sz x:Nat}{A:Option Addr}{p q:Tmp}{e t:TypeId}{u:Value}{W w w':World}
open Go.Proofs.Tryz
structure Sl where
 gen:Int
 used:Bool
 at_:Int
 deriving DecidableEq,Inhabited
def Sl.cells (x:Sl):List Value:=[.int .i64 x.gen,.bool x.used,.int .i64 x.at_]
theorem Sl.len(x:Sl):x.cells.length=3:=rfl
def dJ (w:Nat):Sl:=⟨((w/4294967296%2147483648:Nat):Int),w/9223372036854775808==1,((w%4294967296:Nat):Int)⟩
def mJ (s:Sl):Bool:=if s.used=true then decide (0<s.gen)&&(decide (128<=s.at_)&&decide (s.at_<2048)) else s.at_==0
def slAt (ws:List Nat) (i:Nat):Sl:=dJ (wd ws (112+i))
def ox (ws:List Nat) (k:Nat):Prop:=∀i,i<k->mJ (slAt ws i)=true
theorem py(ws:List Nat):ox ws 0:=λi h=>absurd h (by omega)
theorem o8(h:ox ws k)(h1:mJ (slAt ws k)=true):ox ws (k+1):=λi hi=>by
 rcases kq6 i k with a|a
 .exact h i a
 .have:i=k:=by omega
  subst this;exact h1
def slsOk (ws:List Nat):Bool:=(List.range 16).all λi=>mJ (slAt ws i)
theorem cU(ws:List Nat):slsOk ws=true↔ox ws 16:=by unfold slsOk ox;rw[kzu];exact⟨λh i a=>h i (kzj.2 a),λh i a=>h i (kzj.1 a)⟩
theorem rm(hk:k<16)(h:mJ (slAt ws k)=false):slsOk ws=false:=by
 cases a:slsOk ws with
 | false=>rfl
 | true=>rw[(cU ws).1 a k hk] at h;cases h
def slL (ws:List Nat):List Sl:=(List.range 16).map (slAt ws)
theorem fg(ws:List Nat):(slL ws).length=16:=by simp[slL]
theorem nz(ws:List Nat)(h:i<(slL ws).length):(slL ws)[i]=slAt ws i:=by simp[slL]
def dI (ws:List Nat):Int:=if aj (ws.length:Int)=true then (if slsOk ws=true then 0 else 50) else 8
def fd (ws:List Nat):List Sl:=if dI ws=0 then slL ws else []
theorem yP(h:aj (ws.length:Int)=false):dI ws=8:=by simp[dI,h]
theorem lZ(h:aj (ws.length:Int)=true)(h2:slsOk ws=false):dI ws=50:=by simp[dI,h,h2]
theorem jw(h:aj (ws.length:Int)=true)(h2:slsOk ws=true):dI ws=0/\fd ws=slL ws:=by simp[fd,dI,h,h2]
theorem gF(w:Nat):0<=(dJ w).gen/\(dJ w).gen<=2147483647/\0<=(dJ w).at_/\(dJ w).at_<=4294967295:=by unfold dJ;dsimp only;have h1:=kzz (w/4294967296) (show 0<2147483648 by omega);have h2:=kzz w (show 0<4294967296 by omega);omega
theorem CU{s:Sl}(h:mJ s=true)(hu:s.used=true):0<s.gen/\128<=s.at_/\s.at_<2048:=by
 unfold mJ at h;rw[if_pos hu] at h
 simpa using h
def qu (n:Nat) (l:List Bk):List Int:=l.foldl (λt b=>if b.kind=1 then t.set b.at_.toNat (b.typ+1) else t) (List.replicate n 0)
theorem zD{l:List Bk}(hk:k<l.length):qu n (l.take (k+1))=if l[k].kind=1 then (qu n (l.take k)).set l[k].at_.toNat (l[k].typ+1) else qu n (l.take k):=by unfold qu;rw[kqp hk,List.foldl_append];rfl
theorem rI(t:List Int)(l:List Bk):(l.foldl (λt b=>if b.kind=1 then t.set b.at_.toNat (b.typ+1) else t) t).length=t.length:=by
 induction l generalizing t with
 | nil=>rfl
 | cons b l ih=>simp only[kx1];rw[ih];split<;>simp
theorem pV(n:Nat)(l:List Bk):(qu n l).length=n:=by unfold qu;rw[rI,kjq]
theorem Fi(l:List Bk)(t:List Int)(P:Nat->Int->Prop)(h0:∀a,(t[a]?.getD 0)=0\/P a (t[a]?.getD 0))(h1:∀b∈l,b.kind=1->P b.at_.toNat (b.typ+1))(a:Nat):
 ((l.foldl (λt b=>if b.kind=1 then t.set b.at_.toNat (b.typ+1) else t) t)[a]?.getD 0)=0\/P a ((l.foldl (λt b=>if b.kind=1 then t.set b.at_.toNat (b.typ+1) else t) t)[a]?.getD 0):=by
 induction l generalizing t with
 | nil=>exact h0 a
 | cons b l ih =>
  simp only[kx1];refine ih _ (λa=>?_) (λx c=>h1 x (by simp[c]));split
  .rename_i hk;rw[kxg];split
   .rename_i e;subst e;split
    .right;exact h1 b (by simp) hk
    left;rfl
   exact h0 a
  exact h0 a
theorem I9(l:List Bk)(t:List Int)(a:Nat)(ha:a<t.length)(h:(t[a]?.getD 0)≠0\/∃b∈l,b.kind=1/\b.at_.toNat=a)(hty:∀b∈l,b.kind=1->0<=b.typ):
 ((l.foldl (λt b=>if b.kind=1 then t.set b.at_.toNat (b.typ+1) else t) t)[a]?.getD 0)≠0:=by
 induction l generalizing t with
 | nil =>
  rcases h with h|⟨b,i,-⟩
  .exact h
  cases i
 | cons b l ih =>
  simp only[kx1];refine ih _ (by split<;>simp[ha]) ?_ (λx c=>hty x (by simp[c]));by_cases d:b.kind=1
  .rw[if_pos d,kxg];by_cases e:b.at_.toNat=a
   .left;rw[if_pos e,if_pos (by omega)];have:=hty b (by simp) d;simp only[kq8,ne_eq];omega
   rw[if_neg e];rcases h with h|⟨x,c,f,g⟩
   .exact .inl h
   rcases kqx.1 c with rfl|c
   .exact absurd g e
   exact .inr ⟨x,c,f,g⟩
  rw[if_neg d];rcases h with h|⟨x,c,f,g⟩
  .exact .inl h
  rcases kqx.1 c with rfl|c
  .exact absurd f d
  exact .inr ⟨x,c,f,g⟩
def tb (ws:List Nat) (a:Nat):Int:=(qu ws.length (af ws))[a]?.getD 0
theorem sG(h:tb ws a≠0):a<ws.length:=by
 rcases kq6 a ws.length with b|b
 .exact b
 unfold tb at h;rw[kzi (by rw[pV];exact b)] at h;exact absurd rfl h
def fW (ws:List Nat) (a:Nat):Prop:=128<=a/\a%2=0/\a<ws.length/\stands ws a=true/\(aq (wd ws a)).kind=1/\dK ws (bkAt ws a)=true/\∃k,∃h:k<(af ws).length,(af ws)[k]=bkAt ws a/\blocks ws a=some ((af ws).drop k)
theorem pL(h:ah ws=0)(hk:k<(af ws).length)(h1:(af ws)[k].kind=1):∃a,(af ws)[k]=bkAt ws a/\fW ws a:=by obtain⟨hs,l,g,c,f⟩:=aA h;subst f;obtain⟨a,b,d,e,j,i,m⟩:=cp _ _ g (by omega) k hk;refine⟨a,b,e,d,j,i,by rw[b] at h1;exact h1,?_,k,hk,b,m⟩;rw[kzu] at c;rw[<-b];exact c _ (kqq hk)
theorem iH(h:ah ws=0)(ht:tb ws a≠0):fW ws a/\tb ws a=(aq (wd ws a)).typ+1:=by
 have c:=Fi (af ws) (List.replicate ws.length 0) (λa v=>fW ws a/\v=(aq (wd ws a)).typ+1) (λa=>.inl (by
  rw[kka];split<;>rfl)) (λb e f=>by
  obtain⟨k,d,rfl⟩:=kqz e;obtain⟨a,i,g⟩:=pL h d f;rw[i];have:(bkAt ws a).at_.toNat=a:=by rw[ab,kqj]
  rw[this];exact⟨g,rfl⟩) a
 exact c.resolve_left ht
theorem obj_tb(h:ah ws=0)(ho:fW ws a):tb ws a=(aq (wd ws a)).typ+1/\tb ws a≠0:=by
 obtain⟨h1,h2,l,h4,j,h6,k,f,e,h8⟩:=ho;have c:tb ws a≠0:=by unfold tb qu;refine I9 _ _ _ (by rw[kjq];exact l) (.inr ⟨_,kqq f,by rw[e];exact j,by rw[e,ab,kqj]⟩) (λb g d=>?_);obtain⟨m,i,rfl⟩:=kqz g;obtain⟨a',n,e2⟩:=pL h i d;rw[n];show 0<=((_:Nat):Int);omega
 exact⟨(iH h c).2,c⟩
def flds (ws:List Nat) (a:Nat):List Nat:=bp (wd ws (96+2*(aq (wd ws a)).typ.toNat)) (wd ws (96+2*(aq (wd ws a)).typ.toNat+1))
theorem te(ws:List Nat)(a:Nat):(flds ws a).length<=8:=kB _ _
theorem tH(h:fW ws a)(hi:i<(flds ws a).length):a+2+i<ws.length:=by
 obtain⟨h1,h2,h3,j,f,g,-⟩:=h;have hs:=aF j;have e:dK ws (bkAt ws a)=cZ ws (bkAt ws a):=by
  unfold dK;have:((bkAt ws a).kind != 1)=false:=by rw[kqr];exact f
  rw[this,kk4]
 have c:=jC (ws:=ws) (b:=bkAt ws a) f;rw[e] at g;rw[e,g] at c;have c:=c.symm;simp only[kqt,kqw] at c;have d:=c.2;rw[bq] at d;have h8:(flds ws a).length=(bp (wd ws (tyA (bkAt ws a))) (wd ws (tyA (bkAt ws a)+1))).length:=rfl;unfold bi at d;omega
inductive Rch (ws:List Nat):Nat->Prop
 | slot (i:Nat) (hi:i<16) (hu:(slAt ws i).used=true):Rch ws (slAt ws i).at_.toNat
 | ref (a i:Nat) (ha:Rch ws a) (ht:tb ws a≠0) (hi:(flds ws a)[i]? = some 3) (hv:wd ws (a+2+i)≠0):Rch ws (min (wd ws (a+2+i)) 2048)
def pd (ws:List Nat):Prop:=∀a,Rch ws a->tb ws a≠0
def mz (ws:List Nat) (a:Nat) (j:Nat):List Nat:=(List.range j).filterMap λi=>if (flds ws a)[i]? = some 3/\wd ws (a+2+i)≠0 then some (min (wd ws (a+2+i)) 2048) else none
theorem Bm(ws:List Nat)(a j:Nat):mz ws a (j+1)=mz ws a j++(if (flds ws a)[j]? = some 3/\wd ws (a+2+j)≠0 then [min (wd ws (a+2+j)) 2048] else []):=by unfold mz;rw[kk5,kve];congr 1;simp only[kvp,kvv];split<;>simp_all
theorem DW(ws:List Nat)(a j:Nat):(mz ws a j).length<=j:=by unfold mz;have:=kky (λi=>if (flds ws a)[i]? = some 3/\wd ws (a+2+i)≠0 then some (min (wd ws (a+2+i)) 2048) else none) (List.range j);rwa [kkm] at this
theorem Fr(h:x∈mz ws a j):∃i,(flds ws a)[i]? = some 3/\wd ws (a+2+i)≠0/\x=min (wd ws (a+2+i)) 2048:=by
 unfold mz at h;rw[kj1] at h;obtain⟨i,-,b⟩:=h;split at b
 .rename_i h3;injection b with b;exact⟨i,h3.1,h3.2,b.symm⟩
 cases b
theorem Eh(h1:(flds ws a)[i]? = some 3)(h2:wd ws (a+2+i)≠0):min (wd ws (a+2+i)) 2048∈mz ws a (flds ws a).length:=by unfold mz;rw[kj1];refine⟨i,kzj.2 (kzb.1 h1).1,?_⟩;rw[if_pos ⟨h1,h2⟩]
structure Wk (ws:List Nat) (seen:List Bool) (todo:List Nat):Prop where
 hlen:seen.length=ws.length
 htodo:∀a∈todo,Rch ws a
 hseen:∀a,seen[a]? = some true->Rch ws a/\tb ws a≠0
 hslot:∀i,i<16->(slAt ws i).used=true->(slAt ws i).at_.toNat∈todo\/seen[(slAt ws i).at_.toNat]? = some true
 href:∀a i,seen[a]? = some true->(flds ws a)[i]? = some 3->wd ws (a+2+i)≠0->min (wd ws (a+2+i)) 2048∈todo\/seen[min (wd ws (a+2+i)) 2048]? = some true
theorem Wk.bad(h:Wk ws seen (todo++[a]))(h0:tb ws a=0):¬ pd ws:=λb=>b a (h.htodo a (by simp)) h0
theorem Wk.old(h:Wk ws seen (todo++[a]))(h1:seen[a]? = some true):Wk ws seen todo:=by
 have c:∀x,x∈todo++[a]\/seen[x]? = some true->x∈todo\/seen[x]? = some true:=by
  intro x b;rcases b with b|b
  .rcases kz0.1 b with b|b
   .exact .inl b
   rw[kq1] at b;subst b;exact .inr h1
  exact .inr b
 exact⟨h.hlen,λx b=>h.htodo x (by simp[b]),h.hseen,λi d g=>c _ (h.hslot i d g),λx i b e f=>c _ (h.href x i b e f)⟩
theorem Wk.new_(h:Wk ws seen (todo++[a]))(h0:tb ws a≠0):Wk ws (seen.set a true) (todo++mz ws a (flds ws a).length):=by
 have l:=h.hlen;have g:=sG h0;have c:∀x,(seen.set a true)[x]? = some true↔x=a\/seen[x]? = some true:=by
  intro x;rw[kxg];by_cases e:a=x
  .subst e;simp[l,g]
  rw[if_neg e];constructor
  .exact .inr
  rintro (j|j)
  .exact absurd j.symm e
  exact j
 have f:∀x,x∈todo++[a]\/seen[x]? = some true->x∈todo++mz ws a (flds ws a).length\/(seen.set a true)[x]? = some true:=by
  intro x b;rw[c];rcases b with b|b
  .rcases kz0.1 b with b|b
   .exact .inl (by simp[b])
   rw[kq1] at b;exact .inr (.inl b)
  exact .inr (.inr b)
 have d:Rch ws a:=h.htodo a (by simp);refine⟨by rw[kq4];exact l,λx b=>?_,λx b=>?_,λi n q=>f _ (h.hslot i n q),λx i b k m=>?_⟩
 .rcases kz0.1 b with b|b
  .exact h.htodo x (by simp[b])
  obtain⟨i,o,p,rfl⟩:=Fr b;exact Rch.ref a i d h0 o p
 .rcases (c x).1 b with rfl|b
  .exact ⟨d,h0⟩
  exact h.hseen x b
 rcases (c x).1 b with rfl|b
 .exact .inl (by rw[kz0];exact .inr (Eh k m))
 exact f _ (h.href x i b k m)
theorem Wk.end_(h:Wk ws seen []):pd ws/\∀a,seen[a]? = some true↔Rch ws a:=by
 have b:∀a,Rch ws a->seen[a]? = some true:=by
  intro a c
  induction c with
  | slot i hi hu=>exact (h.hslot i hi hu).resolve_left (by simp)
  | ref a i c ht hi hv ih=>exact (h.href a i ih hi hv).resolve_left (by simp)
 exact⟨λa c=>(h.hseen a (b a c)).2,λa=>⟨λd=>(h.hseen a d).1,b a⟩⟩
def tr (ws:List Nat) (k:Nat):List Nat:=(List.range k).filterMap λi=>if (slAt ws i).used=true then some (slAt ws i).at_.toNat else none
theorem C9(ws:List Nat)(k:Nat):tr ws (k+1)=tr ws k++(if (slAt ws k).used=true then [(slAt ws k).at_.toNat] else []):=by unfold tr;rw[kk5,kve];congr 1;simp only[kvp,kvv];split<;>simp_all
theorem ux(ws:List Nat)(k:Nat):(tr ws k).length<=k:=by unfold tr;have:=kky (λi=>if (slAt ws i).used=true then some (slAt ws i).at_.toNat else none) (List.range k);rwa [kkm] at this
theorem Wk.start(ws:List Nat):Wk ws (List.replicate ws.length false) (tr ws 16):=by
 have d:∀a:Nat,(List.replicate ws.length false)[a]? ≠ some true:=by intro a;rw[kka];split<;>simp
 refine⟨kjq,λa b=>?_,λa b=>absurd b (d a),λi e f=>.inl ?_,λa i b=>absurd b (d a)⟩
 .unfold tr at b;rw[kj1] at b;obtain⟨i,e,c⟩:=b;split at c
  .rename_i h3;injection c with c;subst c;exact Rch.slot i (kzj.1 e) h3
  cases c
 unfold tr;rw[kj1];exact⟨i,kzj.2 e,by rw[if_pos f]⟩
open Classical in
noncomputable def aC (ws:List Nat):Int:=if ah ws=0 then (if slsOk ws=true then (if pd ws then 0 else 50) else 50) else ah ws
open Classical in
noncomputable def seenL (ws:List Nat):List Bool:=(List.range ws.length).map λa=>decide (Rch ws a)
open Classical in
noncomputable def eh (ws:List Nat):List Int:=if aC ws=0 then ((List.range ws.length).filter λa=>decide (Rch ws a)).map (λa:Nat=>(a:Int)) else []
theorem Wk.seenL(h:Wk ws seen []):seen=seenL ws:=by
 have e:=h.end_.2;apply kjj;intro a;unfold Proofs.YtpcajamacpbjcaaGreat.seenL;by_cases b:a<ws.length
 .have c:a<seen.length:=by rw[h.hlen];exact b
  rw[kxf,kvq b,kql c];simp only[kzy,Option.some.injEq];have:=e a;rw[kql c,Option.some.injEq] at this;cases d:seen[a] with
  | true=>rw[d] at this;simp[this.1 rfl]
  | false =>
   rw[d] at this;have f:¬ Rch ws a:=λg=>by have:=this.2 g;cases this
   simp[f]
 rw[kzi (by rw[h.hlen];omega),kzi (by simp;omega)]
def nu (l:List Bool):Nat:=(l.filter (! ·)).length
theorem yN{l:List Bool}(h:l[a]? = some false):nu (l.set a true)+1=nu l:=by
 induction l generalizing a with
 | nil=>simp at h
 | cons b l ih =>
  cases a with
  | zero =>simp only[List.getElem?_cons_zero,Option.some.injEq] at h;subst h;simp[nu]
  | succ a =>simp only[kj8] at h;have:=ih h;unfold nu at this |-;cases b<;>simp_all<;>omega
open Go.RowKit
def Sl.val (x:Sl):Value:=.agg #[.int .i64 x.gen,.bool x.used,.int .i64 x.at_]
theorem uu(g:Int)(u:Bool)(a:Int)(w:World)(h1:0<=g)(h2:g<=2147483647):
 Calls prog 171 #[.agg #[.int .i64 g,.bool u,.int .i64 a]] w λe w'=>e=.returned (.bool (mJ ⟨g,u,a⟩))/\Below w.heap.size w w':=by
 have d:=(kqk w.heap.size w).alloc (kqa _) (.cells #[.int .i64 g,.bool u,.int .i64 a] 52);have i:=hid d;have d1:decide (g<0)=false:=by rw[kqc];omega
 have d2:decide (2147483647<g)=false:=by rw[kqc];omega
 clear d;cases u
 .have H:Hid (mJ ⟨g,false,a⟩=(a==0)):=hid rfl;go_enter func171,ntmps171;go_wp2;go_ret;exact⟨by rw[H.out];rfl,i.out⟩
 have H:Hid (∀b:Bool,b=(decide (0<g)&&(decide (128<=a)&&decide (a<2048)))->mJ ⟨g,true,a⟩=b):=hid λb h=>by rw[h];rfl
 have c:(∃b,decide (0<g)=b)/\(∃b,decide (128<=a)=b)/\∃b,decide (a<2048)=b:=⟨⟨_,rfl⟩,⟨_,rfl⟩,⟨_,rfl⟩⟩;obtain⟨⟨m,o⟩,⟨l,j⟩,⟨n,k⟩⟩:=c;have f:=hid (H.out _ rfl);rw[o,j,k] at f;clear H h1 h2;cases m<;>cases l<;>cases n
 all_goals
  go_enter func171,ntmps171;go_wp2;go_ret;exact⟨by rw[f.out];rfl,i.out⟩
def slB (x:Nat):Sl:=if mJ (dJ x)=true then dJ x else ⟨0,false,0⟩
def yJ (x:Nat):Int:=if mJ (dJ x)=true then 0 else 50
theorem wB(h:mJ (dJ x)=true):slB x=dJ x/\yJ x=0:=by simp[slB,yJ,h]
theorem wH(h:mJ (dJ x)=false):slB x=⟨0,false,0⟩/\yJ x=50:=by simp[slB,yJ,h]
theorem jR(h:fn.results=#[.cell p 52,.tmp q])(tmps:Array Value){v0 v1 v2:Value}(hb:Bx W g t #[v0,v1,v2])(hp:tmps.getD p undef=.pointer (some ⟨g,0,none⟩))(hq:tmps.getD q undef=u):
 (results fn tmps).run prog W=.ok (.tuple #[.agg #[v0,v1,v2],u]) W:=by obtain⟨a,c,b,-⟩:=hb.c3;rw[kxp] at hp hq;simp[results,h,hp,hq,go_sem,a,c,b]
theorem IC(x:Nat)(hx:x<18446744073709551616):bits BinOp.and .u64 ((x:Int)/4294967296) 2147483647=((x/4294967296%2147483648:Nat):Int)/\bits BinOp.and .u64 (x:Int) 4294967295=((x%4294967296:Nat):Int) /\
 (((x:Int)/9223372036854775808)==1)=(x/9223372036854775808==1):=by
 refine⟨?_,uk (k:=32) (m:=4294967295) hx rfl (by omega),?_⟩
 .have a:x/4294967296<18446744073709551616:=by omega
  have h:=uk (k:=31) (m:=2147483647) a rfl (by omega);exact h
 rw[kzg,kqw,kqw];omega
theorem Du(x:Nat)(w:World)(hx:x<18446744073709551616):
 Calls prog 111 #[.int .u64 (x:Int)] w λe w'=>e=.returned (.tuple #[(slB x).val,.int .i64 (yJ x)])/\Below w.heap.size w w':=by
 obtain⟨z,p,y⟩:=IC x hx;obtain⟨n,o,A,t⟩:=gF x;have f:=hid (λh=>wB (x:=x) h);have d:=hid (λh=>wH (x:=x) h);have c:=hid (λW=>uu (dJ x).gen (dJ x).used (dJ x).at_ W n o);have hx0:(0:Int)<=(x:Int):=by omega
 have D:((x/4294967296%2147483648:Nat):Int)=(dJ x).gen:=rfl;have F:((x%4294967296:Nat):Int)=(dJ x).at_:=rfl;have G:(x/9223372036854775808==1)=(dJ x).used:=rfl;rw[D] at z;rw[F] at p;rw[G] at y;clear D F G hx;obtain⟨s,J⟩:=xq (dJ x);rw[J] at z p y n o A t c f d;obtain⟨g,u,a⟩:=s;dsimp only at z p y n o A t c;have w1:IntKind.i64.wrap g=g:=kqs _ (by omega);have w2:IntKind.i64.wrap a=a:=kqs _ (by omega);have I:=Bx.new w 52 #[.int .i64 0,.bool false,.int .i64 0];have C:=hid (I.alloc (.cells #[.int .i64 g,.bool u,.int .i64 a] 52));have r:=Bx.new (w.alloc (.cells #[.int .i64 0,.bool false,.int .i64 0] 52)) 52 #[.int .i64 g,.bool u,.int .i64 a];rw[kqm] at r;have E:=hid r;have H:=hid (((kqk w.heap.size w).alloc (kqa _) (.cells #[.int .i64 0,.bool false,.int .i64 0] 52)).alloc (aS (kqa _)) (.cells #[.int .i64 g,.bool u,.int .i64 a] 52));obtain⟨q,B⟩:∃q,mJ ⟨g,u,a⟩=q:=⟨_,rfl⟩;rw[B] at c f d;clear I r J B n o A t;go_enter func111,ntmps111;go_wp2_with fail;refine (c.out _).mono ?_;rintro e w3 ⟨rfl,b⟩;have i:=C.out.up b C.out.lt;have j:=E.out.up b E.out.lt;have l:=hid (H.out.trans (b.mono H.out.size));obtain⟨p0,p1,p2,f0,f1,f2,hg0⟩:=i.c3;obtain⟨n0,n1,n2,-⟩:=j.c3;have m:=hid i;clear i j b;cases q
 .have k:=hid (d.out rfl);go_wp2_with fail;exact kqo (v:=.tuple #[.agg #[.int .i64 0,.bool false,.int .i64 0],.int .i64 50]) (jR results111 _ (((m.out.set_ 0 _).set_ 1 _).set_ 2 _) rfl rfl) rfl ⟨by rw[k.out.1,k.out.2];rfl,((l.out.setCell (kqa _) _).setCell (kqa _) _).setCell (kqa _) _⟩
 have k:=hid (f.out rfl);go_wp2_with fail;exact kqo (v:=.tuple #[.agg #[.int .i64 g,.bool u,.int .i64 a],.int .i64 0]) (jR results111 _ (((m.out.set_ 0 _).set_ 1 _).set_ 2 _) rfl rfl) rfl ⟨by rw[k.out.1,k.out.2];rfl,((l.out.setCell (kqa _) _).setCell (kqa _) _).setCell (kqa _) _⟩
def noSl:Sl:=⟨0,false,0⟩
def kv (ws:List Nat) (k:Nat):List Sl:=(List.range 16).map λi=>if i<k then slAt ws i else noSl
def iq (l:List Sl):Array Value:=(l.flatMap Sl.cells).toArray
theorem ji(ws:List Nat)(k:Nat):(kv ws k).length=16:=by simp[kv]
theorem ol(ws:List Nat)(k j:Nat)(hj:j<16):(kv ws k)[j]? = some (if j<k then slAt ws j else noSl):=by simp[kv,hj]
theorem yW(ws:List Nat)(k:Nat)(hk:k<16):kv ws (k+1)=(kv ws k).set k (slAt ws k):=by
 apply kjj;intro j;rw[kxg];by_cases a:j<16
 .rw[ol _ _ _ a,ol _ _ _ a];by_cases e:k=j
  .subst e;rw[if_pos (show k<k+1 by omega),if_pos rfl,if_pos (by rw[ji];exact hk)]
  rw[if_neg e];by_cases h:j<k
  .rw[if_pos h,if_pos (by omega)]
  rw[if_neg h,if_neg (by omega)]
 rw[kzi (by rw[ji];omega),if_neg (by omega),kzi (by rw[ji];omega)]
theorem yU(ws:List Nat):kv ws 0=List.replicate 16 noSl:=by
 apply kjj;intro j;by_cases a:j<16
 .rw[ol _ _ _ a,if_neg (by omega),kka,if_pos a]
 rw[kzi (by rw[ji];omega),kzi (by simp;omega)]
theorem zH(ws:List Nat):kv ws 16=slL ws:=by unfold kv slL;apply kz2;intro i a;rw[if_pos (kzj.1 a)]
theorem sl_set(l:List Sl)(k:Nat)(x:Sl):(l.set k x).flatMap Sl.cells=(((l.flatMap Sl.cells).set (k*3) (.int .i64 x.gen)).set (k*3+1) (.bool x.used)).set (k*3+2) (.int .i64 x.at_):=by
 have d:=eI Sl.cells 3 Sl.len l k 0 (by omega) ⟨x.gen,(l[k]?.getD default).used,(l[k]?.getD default).at_⟩ (.int .i64 x.gen) (λy a=>by rw[a];rfl);have b:=eI Sl.cells 3 Sl.len (l.set k ⟨x.gen,(l[k]?.getD default).used,(l[k]?.getD default).at_⟩) k 1 (by omega) ⟨x.gen,x.used,(l[k]?.getD default).at_⟩ (.bool x.used) (λy a=>by
  rw[kxg] at a;simp only[if_true] at a;split at a
  .cases a;rfl
  cases a)
 have c:=eI Sl.cells 3 Sl.len (l.set k ⟨x.gen,x.used,(l[k]?.getD default).at_⟩) k 2 (by omega) x (.int .i64 x.at_) (λy a=>by
  rw[kxg] at a;simp only[if_true] at a;split at a
  .cases a;rfl
  cases a)
 rw[List.set_set] at b c;rw[c,b,d];rfl
theorem z7(l:List Sl)(k:Nat)(x:Sl):(((iq l).setIfInBounds (k*3) (.int .i64 x.gen)).setIfInBounds (k*3+1) (.bool x.used)).setIfInBounds (k*3+2) (.int .i64 x.at_)=iq (l.set k x):=by unfold iq;rw[sl_set];simp
theorem iw(l:List Sl):(iq l).size=l.length*3:=by unfold iq;rw[kjw,cw Sl.cells 3 Sl.len]
theorem Sl.one(x:Sl):∀u∈x.cells,u.oneCell'=true:=by intro u a;simp only[Sl.cells,kqx,kzf,or_false] at a;rcases a with rfl|rfl|rfl<;>rfl
theorem kK(l:List Sl):(iq l).all (·.oneCell')=true:=by unfold iq;rw[List.all_toArray,kzu];exact dP Sl.one l
def b8:Array Value:=iq (List.replicate 16 noSl)
theorem gh:b8.size=48:=by unfold b8;rw[iw,kjq]
theorem lO:b8.all (·.oneCell')=true:=kK _
theorem nL(w:World):(zeroValue 118).run prog w=.ok (.agg b8) w:=by kernel_rfl
theorem IA(w:World):(Instr.build 118 #[]).run prog w=.ok (.agg b8) w:=by kernel_rfl
theorem ks:(prog.info? 118).map (·.size)=some 48:=by kernel_rfl
theorem lF(l:List Sl)(h:j<l.length*3):∃u,(iq l)[j]? = some u:=by have:=iw l;exact⟨_,kjl (by omega)⟩
theorem kc(h:fn.results=#[.cell p 118,.tmp q])(tmps:Array Value){cs:Array Value}(hb:Bx W g t cs)(hs:cs.size=48)(hp:tmps.getD p undef=.pointer (some ⟨g,0,none⟩))(hq:tmps.getD q undef=u):
 (results fn tmps).run prog W=.ok (.tuple #[.agg cs,u]) W:=by
 have b:tmps[p]?.getD undef=.pointer (some ⟨g,0,none⟩):=by simpa using hp
 have a:tmps[q]?.getD undef=u:=by simpa using hq
 have c:(prog.info? 118).map (·.size)=some cs.size:=by rw[hs];exact ks
 have d:=run_loadVar_row W g t 118 cs (0,0) _ hb underlying118 rfl c;simp[results,h,b,a,asAddr,d]
def opV (ws:List Nat):Value:=.agg (if dI ws=0 then iq (slL ws) else b8)
theorem Jf(h:dI ws=0):opV ws=.agg (iq (slL ws)):=by simp[opV,h]
theorem EJ(h:dI ws≠0):opV ws=.agg b8:=by simp[opV,h]
theorem zv(A:Option Addr)(ws:List Nat)(c n:Nat)(w:World)(hn:ws.length=n)(hm:n<=9223372036854775807)(hr:RdW w w.heap.size A ws)(ho:∀x∈ws,x<18446744073709551616):
 Calls prog 64 #[.slice A n c] w λe w'=>e=.returned (.tuple #[opV ws,.int .i64 (dI ws)])/\Below w.heap.size w w':=by
 subst hn;have HR:=hid hr;have Kf:Hid (∀k,wd ws k<18446744073709551616):=hid (fM ho);have hzv:=nL;have hbv:=IA;have p:=gh;have Z:=hid lO;have m:=ks;have b0:=Bx.new w 118 b8;have C:=(kqk w.heap.size w).alloc (kqa _) (.cells b8 118);clear hr ho;cases P:aj (ws.length:Int)
 .have HI:=hid (bI P);have N:=yP P;have B:=hid (And.intro N (EJ (by rw[N];omega)));have R:=hid b0;have O:=hid C;rw[<-p] at m;have z:=m;clear P N b0 C m;go_enter func64,ntmps64;go_wp2_with fail;refine (aG A ws.length c _ hm).mono ?_;rintro e w1 ⟨rfl,rfl⟩;rw[HI.out];go_wp2_with (first
   | ((with_reducible refine ar 118 (.tmp 2) _ ?_);refine am rfl _ _ _ rfl w.heap.size 118 b8 b8 (by rfl) (by rfl) R.out rfl z Z.out ?_;intro w3 Eq X;have g:=hid Eq;have Kc:=hid X;clear Eq X))
  exact kqo (v:=.tuple #[.agg b8,.int .i64 8]) (kc results64 _ g.out p rfl rfl) rfl ⟨by rw[B.out.1,B.out.2],Kc.out.below O.out (kqa _)⟩
 have HI:=hid (aZ P);obtain⟨hb1,hb2,-⟩:=gX ws P;have HS:=hid P;obtain⟨b,off,rfl,hb,-⟩:=RdW.at_ HR.out (show 0<ws.length by omega);have Ke:Hid (∀k (h:k<ws.length) (W:World),Below w.heap.size w W->W.cell? ⟨b,off+k,none⟩=some (.int .u64 (wd ws k:Int))):=hid λk h W H=>by
  obtain⟨b',off',e',-,h0⟩:=RdW.at_ (Rd.below HR.out H) h;cases e';rw[<-cA] at h0;exact h0
 have R:=hid b0;have O:=hid C;rw[<-p] at m;have z:=m;clear P b0 C m;go_enter func64,ntmps64;go_wp2_with fail;refine (aG _ ws.length c _ hm).mono ?_;rintro e w1 ⟨rfl,rfl⟩;rw[HI.out];go_wp2_with fail;go_loopw [15] (λi wr=>∃k:Nat,k<=16/\i=.int .i64 k/\Hid (ox ws k)/\Bx wr w.heap.size 118 b8/\Bx wr (w.heap.size+1) 118 (iq (kv ws k))/\Below w.heap.size w wr) (λi _=>16-(intOf i).toNat)
 case atStart =>
  have x1:=Bx.new (w.alloc (.cells b8 118)) 118 b8;rw[kqm] at x1;exact⟨0,kqy _,rfl,py ws,R.out.alloc _,by rw[yU];exact x1,O.out.alloc (by simp) _⟩
 obtain⟨k,hk,rfl,U,q0,D,H⟩:=hrel;have hz:=H.size;have Y:=hid q0;have Q1:=hid D;by_cases T:k<16
 .have h0:=Ke.out (112+k) (by omega) _ H;have d:=hid (λW=>Du (wd ws (112+k)) W (Kf.out _));have I:=hid (λh=>o8 U.out h);have E:=hid (λh=>lZ HS.out (rm T h));have o:dJ (wd ws (112+k))=slAt ws k:=rfl;have Kd:=hid (yW ws k T);have hsz:=ji ws k;obtain⟨u0,K⟩:=lF (kv ws k) (j:=k*3) (by omega);obtain⟨u1,M⟩:=lF (kv ws k) (j:=k*3+1) (by omega);obtain⟨u2,Q⟩:=lF (kv ws k) (j:=k*3+2) (by omega);have i1:(0:Int)<=112+(k:Int):=by omega
  have i2:(112:Int)+(k:Int)<(ws.length:Int):=by omega
  have n1:((112:Int)+(k:Int)).toNat=112+k:=by omega
  have hk1:(k:Int)<16:=by omega
  have hk0:(0:Int)<=(k:Int):=by omega
  obtain⟨x,hx⟩:=xq (wd ws (112+k));rw[hx] at h0 d o;cases a:mJ (slAt ws k)
  .have N:=E.out a;have B:=hid (And.intro N (EJ (by rw[N];omega)));rw[<-o] at a;rw[(wH a).1,(wH a).2] at d;unfold Sl.val at d;dsimp only at d;clear hx a N o E I q0 D K M Q;go_wp2_with fail;refine (d.out _).mono ?_;rintro e w3 ⟨rfl,f⟩;have q:=hid (Y.out.up f Y.out.lt);have g:=hid (H.trans (f.mono hz));clear f;go_wp2_with (first
    | ((with_reducible refine ar 118 (.tmp 2) _ ?_);refine am rfl _ _ _ rfl w.heap.size 118 b8 b8 (by rfl) (by rfl) (q.out.alloc _) rfl z Z.out ?_;intro w4 y r;have F:=hid y;have G:=hid r;clear y r))
   exact kqo (v:=.tuple #[.agg b8,.int .i64 50]) (kc results64 _ F.out p rfl rfl) rfl ⟨by rw[B.out.1,B.out.2],G.out.below (g.out.alloc g.out.size _) (kqa _)⟩
  have V:=hid (I.out a);rw[<-o] at a;rw[(wB a).1,(wB a).2,o] at d;have u:=z7 (kv ws k) k (slAt ws k);rw[<-Kd.out] at u;have t:=hid u;obtain⟨s,Ka⟩:=xq (slAt ws k);rw[Ka] at d t;obtain⟨sg,su,sa⟩:=s;unfold Sl.val at d;dsimp only at d t;clear hx a o Ka u E I q0 D;go_wp2_with fail;refine (d.out _).mono ?_;rintro e w3 ⟨rfl,f⟩;have q:=Q1.out.up f Q1.out.lt;have Q3:=hid q;have Q4:=hid (Y.out.up f Y.out.lt);have hg3:=q.lt;have d0:=(q.cell (k*3)).trans K;have d1:=(q.cell (k*3+1)).trans M;have d2:=(q.cell (k*3+2)).trans Q;have f0:=q.frozen (k*3);have f1:=q.frozen (k*3+1);have f2:=q.frozen (k*3+2);have g:=hid (H.trans (f.mono hz));clear f q K M Q;go_wp2;go_roundw
  case rel =>
   refine⟨k+1,by omega,by go_num,V.out,(((Q4.out.far (by simp) _).far (by simp) _).far (by simp) _).alloc _,?_,(((g.out.setCell (by simp) _).setCell (by simp) _).setCell (by simp) _).alloc (by simpa using g.out.size) _⟩;rw[<-t.out];exact (((Q3.out.set_ (k*3) _).set_ (k*3+1) _).set_ (k*3+2) _).alloc _
  case measure=>simp[intOf];omega
 obtain rfl:k=16:=by omega
 have L:=jw HS.out ((cU ws).2 U.out);have B:=hid (And.intro L.1 (Jf L.1));rw[zH] at D;have l:(iq (slL ws)).size=48:=by rw[iw,fg]
 obtain⟨cs,J⟩:=xq (iq (slL ws));have h1:cs.all (·.oneCell')=true:=by rw[<-J];exact kK _
 have H1:=hid h1;rw[J] at D B l;have Q5:=hid D;have S:(prog.info? 118).map (·.size)=some cs.size:=by rw[l];exact ks
 have Kb:cs.size=b8.size:=by rw[l,p]
 clear q0 D L J h1;go_wp2_with (first
  | ((with_reducible refine aN 118 (.tmp 5) ?_);refine kxh rfl _ _ rfl (w.heap.size+1) (by rfl) 118 cs (0,0) _ Q5.out underlying118 (by rfl) S ?_)
  | ((with_reducible refine ar 118 (.tmp 2) _ ?_);refine am rfl _ _ _ rfl w.heap.size 118 b8 cs (by rfl) (by rfl) Y.out Kb S H1.out ?_;intro w4 y r;have F:=hid y;have G:=hid r;clear y r))
 exact kqo (v:=.tuple #[.agg cs,.int .i64 0]) (kc results64 _ F.out l rfl rfl) rfl ⟨by rw[B.out.1,B.out.2],G.out.below H (kqa _)⟩
theorem Rd.of_box{cs:Array Value}(h:Bx w g t cs)(hg:g<B):Rd w B (some ⟨g,0,none⟩) cs.toList:=λ_ =>
 ⟨g,0,rfl,hg,λj hj=>by
  rw[kxd,h.cell j]
  simp⟩
def RdS (w:World) (B:Nat) (A:Option Addr) (l:List Sl):Prop:=Rd w B A (l.flatMap Sl.cells)
theorem RdS.at_{l:List Sl}(h:RdS w B A l)(hk:k<l.length):
 ∃b a,A=some ⟨b,a,none⟩/\b<B/\w.cell? ⟨b,a+k*3,none⟩=some (.int .i64 l[k].gen)/\w.cell? ⟨b,a+k*3+1,none⟩=some (.bool l[k].used)/\w.cell? ⟨b,a+k*3+2,none⟩=some (.int .i64 l[k].at_):=by obtain⟨b,a,e,d,c⟩:=Rd.at_flat Sl.len h (by omega) hk;exact⟨b,a,e,d,c 0 (by omega),c 1 (by omega),c 2 (by omega)⟩
def JE (ws:List Nat) (e:Ending) (w':World):Prop:=∃A c,e=.returned (.tuple #[.slice A (fd ws).length c,.int .i64 (dI ws)])/\RdS w' w'.heap.size A (fd ws)/\(fd ws).length<=c
theorem Gi(A:Option Addr)(ws:List Nat)(c n:Nat)(w:World)(hn:ws.length=n)(hm:n<=9223372036854775807)(s:RdW w w.heap.size A ws)(ho:∀x∈ws,x<18446744073709551616):
 Calls prog 25 #[.slice A n c] w λe w'=>JE ws e w'/\Below w.heap.size w w':=by
 have j:=hid (zv A ws c n w hn hm s ho);clear s ho hn hm;have p:=gh;by_cases h:dI ws=0
 .have b:fd ws=slL ws:=by simp[fd,h]
  have i:=hid (And.intro h b);have F:=fg ws;rw[h,Jf h] at j;have d:(iq (slL ws)).size=48:=by rw[iw,fg]
  obtain⟨l,z⟩:=xq (slL ws);rw[z] at d j F i;have B:Hid (iq l=(l.flatMap Sl.cells).toArray):=hid rfl;have I:=hid (kK l);have H:=hid F;obtain⟨cs,v⟩:=xq (iq l);rw[v] at j d B I;have o:(prog.info? 118).map (·.size)=some cs.size:=by rw[d];exact ks
  clear h b z v F p;go_enter func25,ntmps25;go_wp2_with fail;refine j.out.mono ?_;rintro e t ⟨rfl,a⟩;have E:=nL;have G:cs.size=b8.size:=by rw[d,gh]
  have u:=Bx.new t 118 b8;have D:=hid u;have k:=hid (a.alloc a.size (.cells b8 118));have q:=a.size;clear u a;go_wp2_with (first
   | ((with_reducible refine ar 118 (.tmp 4) _ ?_);refine am rfl _ _ _ rfl t.heap.size 118 b8 cs (by rfl) (by rfl) D.out G o I.out ?_;intro J f g;have C:=hid f;have m:=hid (g.below k.out q);clear f g))
  go_ret2;refine⟨⟨some ⟨t.heap.size,0,none⟩,16,by rw[i.out.1,i.out.2,H.out];rfl,?_,by rw[i.out.2,H.out];omega⟩,m.out⟩;rw[i.out.2];have:=C.out;rw[B.out] at this;exact Rd.of_box this this.lt
 have b:fd ws=[]:=by simp[fd,h]
 have i:=hid b;rw[EJ h] at j;obtain⟨r,s⟩:=xq (dI ws);have K:=hid s;rw[s] at j h;have hrn:(r != 0)=true:=by rw[kqv];exact h
 have q:=hid lO;have o:(prog.info? 118).map (·.size)=some b8.size:=by rw[p];exact ks
 clear h b s p;go_enter func25,ntmps25;go_wp2_with fail;refine j.out.mono ?_;rintro e t ⟨rfl,a⟩;have E:=nL;have u:=Bx.new t 118 b8;have D:=hid u;have k:=hid (a.alloc a.size (.cells b8 118));have y:=a.size;clear u a;go_wp2_with (first
  | ((with_reducible refine ar 118 (.tmp 4) _ ?_);refine am rfl _ _ _ rfl t.heap.size 118 b8 b8 (by rfl) (by rfl) D.out rfl o q.out ?_;intro J f g;have C:=hid f;have m:=hid (g.below k.out y);clear f g))
 go_ret2;exact⟨⟨none,0,by rw[K.out,i.out];rfl,by rw[i.out];exact Rd.nil_,by rw[i.out];exact kqa _⟩,m.out⟩
def mj (H:Nat) (a b:Nat) (e:Ending) (w':World):Prop:=∃A c,e=.returned (.tuple #[.slice A (bp a b).length c,.int .i64 (eN a b)])/\w'.ownsRow H 5 1 (.slice A (bp a b).length c) (bp a b).length ((bp a b).flatMap bu)
theorem kS(h:cr a b=false):mj H a b (.returned (.tuple #[.slice none 0 0,.int .i64 50])) w':=by
 have c:bp a b=[]:=by simp[bp,h]
 have d:eN a b=50:=by simp[eN,h]
 exact⟨none,0,by rw[c,d];rfl,by rw[c];exact kza _ _ _ _⟩
theorem yV{v:Value}(h0:cr a b=true)(h:w'.ownsRow H 5 1 v (dB a).length ((dB a).flatMap bu)):mj H a b (.returned (.tuple #[v,.int .i64 0])) w':=by
 have d:bp a b=dB a:=by simp[bp,h0]
 have e:eN a b=0:=by simp[eN,h0]
 obtain⟨A,c,rfl⟩:=aO h;exact⟨A,c,by rw[d,e],by rw[d];exact h⟩
theorem vN(a b:Nat)(w:World)(ha:a<18446744073709551616)(hb:b<18446744073709551616):
 Calls prog 117 #[.int .u64 (a:Int),.int .u64 (b:Int)] w λe w'=>mj w.heap.size a b e w'/\Below w.heap.size w w':=by
 have G:=hid (ko a b);have ha0:(0:Int)<=(a:Int):=by omega
 have e1:=(uo a ha).1;have l:=hid (eZ a);have B:=hid (λk h=>qw a k h);have U:=hid (λk=>vQ a k ha);have Y:a%256<256:=kzz _ (by omega);obtain⟨m,A⟩:=xq (a%256);rw[A] at e1 l B G Y;by_cases h8:8<m
 .have HB:=hid (show cr a b=false by rw[G.out,show decide (m<=8)=false by rw[kqc];omega];rfl);clear A ha hb;go_enter func117,ntmps117;go_wp2;go_ret2;exact⟨kS HB.out,kqk _ _⟩
 have K:m<=8:=by omega
 rw[show decide (m<=8)=true by rw[kqn];exact K] at G;have hx0:(0:Int)<=(m:Int):=by omega
 have HA:=hid ha;have HB:=hid hb;have d8:decide ((8:Int)<(m:Int))=false:=by rw[kqc];omega
 clear A ha hb h8 Y;obtain⟨i0,Z,D,I,J⟩:=kzw kO;have HI:=hid Z;have T:=hid D;have R:=hid I;have P:=hid J;clear Z D I J;go_enter func117,ntmps117;go_wp2_with fail;go_loopw [7,16] (λv i wr=>∃k:Nat,k<=m/\i=.int .u64 k/\wr.ownsRow w.heap.size 5 1 v k (((dB a).take k).flatMap bu)/\Below w.heap.size w wr) (λ_ i _=>m-(intOf i).toNat)
 case atStart=>exact⟨0,kqy _,rfl,kza _ _ _ _,kqk _ _⟩
 obtain⟨k,hk,rfl,c,y⟩:=hrel;have L:=y.size;by_cases F:k<m
 .have V:=U.out k;have M:=B.out k F;obtain⟨x,O⟩:=xq (a/4 ^ (k+4)%4);have hx3:x<4:=by rw[<-O];exact kzz _ (by omega)
  rw[O] at V M;have E:=hid (show ((dB a).take (k+1)).flatMap bu=((dB a).take k).flatMap bu++[.int .u8 (x:Int)] by
   have X:k<(dB a).length:=by rw[l.out];exact F
   rw[kqp X,cq];rw[kql X] at M;rw[Option.some.inj M];rfl)
  have hxi:(x:Int)<4:=by omega
  have hx00:(0:Int)<=(x:Int):=by omega
  have hki:(k:Int)<(m:Int):=by omega
  clear O M;go_wp2_with (at_builtin;refine kze _ rfl _ _ 113 rfl w.heap.size 5 i0 _ 1 1 underlying113 HI.out T.out R.out P.out rfl (by decide) _ _ _ rfl (c.alloc _) ⟨_,0,none⟩ 1 1 [.int .u8 (x:Int)] rfl rfl (cI _ _ _) (by simp[Value.oneCell']) (by unfold maxLen;omega) (by omega) (aS y.size) ?_;intro v1 N j S _;have f:=aE y y.size c S);go_roundw
  case rel=>exact⟨k+1,by omega,by go_num,by rw[E.out];exact j,f⟩
  case measure=>simp[intOf];omega
 obtain rfl:k=m:=by omega
 rw[kq5 (by rw[l.out];exact kqa _)] at c;obtain⟨A1,c1,rfl⟩:=aO c;have z:=hid (va A1 (dB a) c1 k wr l.out (by omega) (Rd.of_own c));have g:(dB a).length<=8:=by rw[l.out];exact K
 cases n:dN (dB a)
 .have o:=hid (lE g n);have C:=hid (show cr a b=false by rw[G.out,n];rfl);have Q:=hid (show kwV (dB a)=.agg #[.int .u64 0,.int .u64 0] by simp[kwV,o.out,BQ]);rw[o.out,Q.out] at z;clear n g c;go_wp2_with fail;refine z.out.mono ?_;rintro e N ⟨rfl,f⟩;have d:=y.trans (f.mono L);go_wp2;go_ret2;exact⟨kS C.out,d.alloc d.size _⟩
 have o:=hid (jn g n);have Q:=hid (show kwV (dB a)=.agg #[.int .u64 (iL (dB a):Nat),.int .u64 (ig (iL (dB a)):Nat)] by simp[kwV,o.out,BQ]);have t:=hid (show cr a b=(iL (dB a)==a&&ig (iL (dB a))==b) by
  rw[G.out,n];by_cases h:iL (dB a)=a
  .rw[h];simp
  rw[show (iL (dB a)==a)=false by rw[kqi];exact h];simp only[kxz,kjv])
 rw[o.out,Q.out] at z;obtain⟨p,hp⟩:=xq (iL (dB a));obtain⟨q,W⟩:=xq (ig p);rw[hp,W] at z t;clear n g hp W;by_cases s:p=a
 .by_cases u:q=b
  .have HY:=hid (show cr a b=true by rw[t.out,s,u];simp);have r:=pk p q a b;rw[show ((p:Int)==(a:Int))=true by rw[kqw];omega,show ((q:Int)==(b:Int))=true by rw[kqw];omega,Bool.and_self] at r;clear s u;go_wp2_with fail;refine z.out.mono ?_;rintro e N ⟨rfl,f⟩;have d:=y.trans (f.mono L);have j:=ai c f (kqa _);go_wp2;go_ret2;refine⟨yV HY.out (H:=w.heap.size) ?_,d.alloc d.size _⟩;rw[l.out];exact j.alloc _
  have C:=hid (show cr a b=false by rw[t.out,show (q==b)=false by rw[kqi];exact u,kjv]);have r:=pk p q a b;rw[show ((q:Int)==(b:Int))=false by rw[kqi];omega,kjv] at r;clear s u c;go_wp2_with fail;refine z.out.mono ?_;rintro e N ⟨rfl,f⟩;have d:=y.trans (f.mono L);go_wp2;go_ret2;exact⟨kS C.out,d.alloc d.size _⟩
 have C:=hid (show cr a b=false by rw[t.out,show (p==a)=false by rw[kqi];exact s,kxz]);have r:=pk p q a b;rw[show ((p:Int)==(a:Int))=false by rw[kqi];omega,kxz] at r;clear s c;go_wp2_with fail;refine z.out.mono ?_;rintro e N ⟨rfl,f⟩;have d:=y.trans (f.mono L);go_wp2;go_ret2;exact⟨kS C.out,d.alloc d.size _⟩
def F6 (H:Nat) (a b:Nat) (e:Ending) (w':World):Prop:=∃A c,e=.returned (.tuple #[.slice A (bp a b).length c,.bool (cr a b)])/\w'.ownsRow H 5 1 (.slice A (bp a b).length c) (bp a b).length ((bp a b).flatMap bu)
theorem wx(A:Option Addr)(ws:List Nat)(c n t:Nat)(w:World)(hn:ws.length=n)(hm:n<=1000000)(h2:256<=n)(ht:t<8)(hr:RdW w w.heap.size A ws)(ho:∀x∈ws,x<18446744073709551616):
 Calls prog 110 #[.slice A n c,.int .i64 (t:Int)] w λe w'=>F6 w.heap.size (wd ws (96+2*t)) (wd ws (96+2*t+1)) e w'/\Below w.heap.size w w':=by
 subst hn;have o:=fM ho (96+2*t);have r:=fM ho (96+2*t+1);have i:=hid (λW=>vN (wd ws (96+2*t)) (wd ws (96+2*t+1)) W o r);have m:=hid (mT (wd ws (96+2*t)) (wd ws (96+2*t+1)));obtain⟨b,a,rfl,q,k⟩:=RdW.at_ hr (show 96+2*t<ws.length by omega);obtain⟨b',off',s,-,j⟩:=RdW.at_ hr (show 96+2*t+1<ws.length by omega);cases s;rw[<-cA] at k j;obtain⟨x,f⟩:=xq (wd ws (96+2*t));obtain⟨y,h⟩:=xq (wd ws (96+2*t+1));rw[f] at k i m |-;rw[h] at j i m |-;have t0:(0:Int)<=(t:Int):=by omega
 have t8:(t:Int)<8:=by omega
 have w1:IntKind.i64.wrap (2*(t:Int))=2*(t:Int):=kqs _ (by omega);have w2:IntKind.i64.wrap (96+2*(t:Int))=96+2*(t:Int):=kqs _ (by omega);have w3:IntKind.i64.wrap (96+2*(t:Int)+1)=96+2*(t:Int)+1:=kqs _ (by omega);have i1:(0:Int)<=96+2*(t:Int):=by omega
 have i2:(96:Int)+2*(t:Int)<(ws.length:Int):=by omega
 have i3:(0:Int)<=96+2*(t:Int)+1:=by omega
 have i4:(96:Int)+2*(t:Int)+1<(ws.length:Int):=by omega
 have n1:((96:Int)+2*(t:Int)).toNat=96+2*t:=by omega
 have n2:((96:Int)+2*(t:Int)+1).toNat=96+2*t+1:=by omega
 clear hr o r f h ho ht;go_enter func110,ntmps110;go_wp2_with fail
 go_region_held3 (λX:World=>X.cell? ⟨b,a+(96+2*t),none⟩=some (.int .u64 (x:Int))/\X.cell? ⟨b,a+(96+2*t+1),none⟩=some (.int .u64 (y:Int))) (go_keep)
  (first | (go_at_call 117;refine (i.out _).mono ?_;rintro e w5 ⟨⟨u,v,rfl,g⟩,d⟩;have m0:=(d.cell (p:=⟨b,a+(96+2*t),none⟩) q).trans k;have m1:=(d.cell (p:=⟨b,a+(96+2*t+1),none⟩) q).trans j;have l:=hid g;clear g))
 go_wp2;go_ret2;exact⟨⟨u,v,by rw[m.out];rfl,l.out⟩,(kqk _ _).drew.trans d⟩
def fZ (x:Nat):List Value:=[.int .i64 (x:Int)]
def bL (x:Bool):List Value:=[.bool x]
theorem sV(x:Nat):(fZ x).length=1:=rfl
theorem fX(x:Bool):(bL x).length=1:=rfl
theorem zj(n:Nat):(List.replicate n (0:Int)).flatMap cX=List.replicate n (.int .i64 0):=by
 induction n with
 | zero=>rfl
 | succ n ih=>rw[kjx,kzx,ih,kjx];rfl
theorem wc(n:Nat):(List.replicate n false).flatMap bL=List.replicate n (.bool false):=by
 induction n with
 | zero=>rfl
 | succ n ih=>rw[kjx,kzx,ih,kjx];rfl
theorem EW(l:List Int)(k:Nat)(x:Int):(l.set k x).flatMap cX=(l.flatMap cX).set k (.int .i64 x):=by
 have:=eI cX 1 jx l k 0 (by omega) x (.int .i64 x) (λy _=>rfl)
 simpa using this
theorem zo(l:List Bool)(k:Nat)(x:Bool):(l.set k x).flatMap bL=(l.flatMap bL).set k (.bool x):=by
 have:=eI bL 1 fX l k 0 (by omega) x (.bool x) (λy _=>rfl)
 simpa using this
theorem mL(l:List Int)(k:Nat)(h:k<l.length):(l.flatMap cX)[k]? = some (.int .i64 (l[k]?.getD 0)):=by
 have:=iN cX 1 jx l k 0 h (by omega)
 simpa [cX,h] using this
theorem Cz(l:List Bool)(k:Nat)(h:k<l.length):(l.flatMap bL)[k]? = some (.bool (l[k]?.getD false)):=by
 have:=iN bL 1 fX l k 0 h (by omega)
 simpa [bL,h] using this
theorem DH:(prog.info? 3).map (λi=>(i.zero,i.size,i.bytes))=some (some (.int .i64 0),1,8):=by kernel_rfl
theorem zP:(prog.info? 4).map (λi=>(i.zero,i.size,i.bytes))=some (some (.bool false),1,1):=by kernel_rfl
open Classical in
theorem Bc(h:ah ws=0)(h1:slsOk ws=true)(h2:pd ws):aC ws=0:=by simp[aC,h,h1,h2]
open Classical in
theorem rc_sl(h:ah ws=0)(h1:slsOk ws=false):aC ws=50:=by simp[aC,h,h1]
open Classical in
theorem Gm(h:ah ws=0)(h2:¬ pd ws):aC ws=50:=by simp[aC,h,h2]
theorem kw(l:List Nat)(x:Nat):(l++[x]).flatMap fZ=l.flatMap fZ++[.int .i64 (x:Int)]:=by simp[fZ]
theorem Ix{ys:List Value}(h:w.ownsRow H e 1 (.slice (some ⟨g,0,none⟩) (n+1) c) (n+1) (xs++ys))(hx:xs.length=n):w.ownsRow H e 1 (.slice (some ⟨g,0,none⟩) n c) n xs:=by
 refine⟨by rw[hx,kxm],.inr ?_⟩;rcases h.2 with⟨a,_⟩|⟨g',cap,b,a,i,l,h4,j,k,f⟩
 .cases a
 simp only[Value.slice.injEq,Option.some.injEq,Addr.mk.injEq,and_true,true_and] at a;obtain⟨rfl,rfl⟩:=a;refine⟨g,c,b,rfl,i,l,by omega,j,k,?_⟩;have d:=congrArg (List.take n) f;rw[kkd,kxm,kxc (by omega),List.take_left' hx] at d;rw[kxm];exact d
theorem cH(h:w.ownsRow H e sz (.slice A n c) n xs):n<=c:=by obtain⟨A',c',b,a,-⟩:=kJ h;cases b;exact a
theorem IE(h:w.ownsRow H e sz (.slice (some ⟨g,0,none⟩) n c) n xs){p:Addr}(hp:g≠p.block)(u:Value):(w.setCell p u).ownsRow H e sz (.slice (some ⟨g,0,none⟩) n c) n xs:=by
 refine⟨h.1,?_⟩;rcases h.2 with⟨a,_⟩|⟨f,d,b,a,i,j,k⟩
 .cases a
 refine .inr ⟨f,d,b,a,i,?_,k⟩;simp only[Value.slice.injEq,Option.some.injEq,Addr.mk.injEq,and_true,true_and] at a;obtain⟨rfl,rfl⟩:=a;exact (kkz w p u g hp).trans j
def RcRes (ws:List Nat) (B:Nat) (e:Ending) (w':World):Prop:=
 (aC ws=0/\∃g c,e=.returned (.tuple #[.slice (some ⟨g,0,none⟩) ws.length c,.int .i64 0])/\w'.ownsRow B 4 1 (.slice (some ⟨g,0,none⟩) ws.length c) ws.length ((seenL ws).flatMap bL)) \/
 (aC ws=50/\e=.returned (.tuple #[.slice none 0 0,.int .i64 50]))
theorem DJ(A L:Option Addr)(ws:List Nat)(c cl n:Nat)(l:List Bk)(w:World)(hn:ws.length=n)(hm:n<=9223372036854775807)(h0:ah ws=0)(hl:af ws=l)(hr:RdW w w.heap.size A ws)(hrl:RdB w w.heap.size L l)(ho:∀x∈ws,x<18446744073709551616):
 Calls prog 63 #[.slice A n c,.slice L l.length cl] w λe w'=>RcRes ws w.heap.size e w'/\Below w.heap.size w w':=by
 subst hn;have HR:=hid hr;have HL:=hid hrl;have HO:=hid ho;obtain⟨hs,-⟩:=aA h0;have Nw:=gX ws hs;obtain⟨Qo,hb2,-⟩:=Nw;have Qx:Hid (∀k,wd ws k<18446744073709551616):=hid (fM ho);have Km:=hid (Gi A ws c ws.length w rfl hm hr ho);unfold JE at Km;have Lg:=hid h0;clear hr hrl ho;cases Kj:slsOk ws
 .have he:=lZ hs Kj;have hq:fd ws=[]:=by simp[fd,he]
  rw[he,hq] at Km;have HV:=hid (rc_sl h0 Kj);clear hs Kj he hq h0;go_enter func63,ntmps63;go_wp2_with fail;refine Km.out.mono ?_;rintro e w1 ⟨⟨A1,c1,rfl,-,-⟩,Kc⟩;go_wp2;go_ret2;exact⟨.inr ⟨HV.out,rfl⟩,Kc⟩
 obtain⟨g1,g2⟩:=jw hs Kj;rw[g1,g2,fg] at Km;have Qh:=hid Kj;obtain⟨i0,hi,Ml,Mo,Mx⟩:=kzw DH;obtain⟨i1,hj,Nm,Nc,Mi⟩:=kzw zP;have q:=hid (And.intro hi (And.intro Ml (And.intro Mo Mx)));have Lf:=hid (And.intro hj (And.intro Nm (And.intro Nc Mi)));have Qc:=jG ws;rw[hl] at Qc;have Qs:=hid hl;have Mm:Hid (∀k (h:k<l.length),l[k].kind=1->∃a t:Nat,l[k].at_=(a:Int)/\l[k].typ=(t:Int)/\a<ws.length/\t<128):=hid (by
  subst hl;intro k h h1;obtain⟨a,e1,e2⟩:=pL h0 h h1;refine⟨a,wd ws a/512%128,by rw[e1];rfl,by rw[e1];rfl,e2.2.2.1,kzz _ (by omega)⟩)
 clear hl;clear hs Kj g1 g2 hi Ml Mo Mx hj Nm Nc Mi h0;go_enter func63,ntmps63;go_wp2_with fail;refine Km.out.mono ?_;rintro e w1 ⟨⟨A1,c1,rfl,Mh,-⟩,Kc⟩;have Qu:=hid Mh;obtain⟨W2,Lt,E,Kp⟩:=run_make_full (P:=prog) w1 w1.heap.size 42 3 i0 (.int .i64 0) 1 underlying42 q.out.1 q.out.2.1 q.out.2.2.1 .i64 .i64 ws.length (by rw[q.out.2.2.2];omega) (by unfold maxLen;omega) (kqa _);have Nf:W2.ownsRow w1.heap.size 3 1 (.slice (some ⟨w1.heap.size,0,none⟩) ws.length ws.length) ws.length ((qu ws.length (l.take 0)).flatMap cX):=by show W2.ownsRow _ _ _ _ _ ((List.replicate ws.length (0:Int)).flatMap cX);rw[zj,<-toList_madeCells_one];have:=E;rw[kxm] at this;exact this
 have Kf:=(kqk w1.heap.size w1).grown Kp (kqa _) (λk hk=>by cases hk);have Qj:=hid Nf;have Mf:=hid Kc;have HB2:=hid (Kc.trans (Kf.mono Kc.size));have Nh:=hid Kf;have Ms:=hid Qu.out;have Li:=Kc.size;have hz2w:=Kf.size;clear Mh E Kp Nf Kf Kc;go_wp2_with fail;clear Lt;go_loopw [34] (λi wr=>∃k:Nat,k<=l.length/\i=.int .i64 k/\wr.ownsRow w1.heap.size 3 1 (.slice (some ⟨w1.heap.size,0,none⟩) ws.length ws.length) ws.length ((qu ws.length (l.take k)).flatMap cX)/\Below w1.heap.size w1 wr) (λi _=>l.length-(intOf i).toNat)
 case atStart=>exact⟨0,kqy _,rfl,Qj.out,Nh.out⟩
 obtain⟨k,hk,rfl,d,hB⟩:=hrel;have hz:=hB.size;by_cases Lr:k<l.length
 .have Ks:=Mf.out.trans (hB.mono Li);obtain⟨b,off,rfl,Qk,q0,q1,q2,q3,q4,q5⟩:=RdB.at_ (Rd.below HL.out Ks) Lr;have X:=hid (zD (n:=ws.length) Lr);have Ma:=hid (Mm.out k Lr);have Ly:=pV ws.length (l.take k);obtain⟨x,hx⟩:=xq (l[k]);obtain⟨tl,M⟩:=xq (qu ws.length (l.take k));rw[hx] at q0 q1 q2 q3 q4 q5 X Ma;rw[M] at X d Ly;obtain⟨xa,xs,xk,xt,xm,xn⟩:=x;dsimp only at q0 q1 q2 q3 q4 q5 X Ma;have hlm:(k:Int)<(l.length:Int):=by omega
  clear hx M;by_cases Ka:xk=1
  .obtain ⟨a,t,ha,ht,Lq,Mq⟩:=Ma.out Ka;subst ha ht;have Qm:(xk==1)=true:=by rw[kqw];exact Ka
   have Ld:=hid (X.out.trans (if_pos Ka));simp only[kqj] at Ld;have hw1:IntKind.i64.wrap ((t:Int)+1)=(t:Int)+1:=kqs _ (by omega);have Nr:(a:Int)<(ws.length:Int):=by omega
   have Nx:(0:Int)<=(a:Int):=by omega
   have U:=d.alloc (.cells #[.int .i64 (a:Int),.int .i64 xs,.int .i64 xk,.int .i64 (t:Int),.bool xm,.int .u64 (xn:Int)] 55);have c0:=(d.cellAt a (by omega)).trans (mL tl a (by omega));have f0:=d.frozenAt a;have c0':=(U.cellAt a (by omega)).trans (mL tl a (by omega));have f0':=U.frozenAt a;obtain⟨u,hu⟩:=xq (tl[a]?.getD 0);rw[hu] at c0 c0';have hgw:=(d.lt _ rfl).2;have Me:=hid d;clear U;clear Ka hu X d;go_wp2;go_roundw
   case rel =>
    refine⟨k+1,by omega,by go_num,?_,(hB.setCell (p:=⟨w1.heap.size,a,none⟩) (kqa _) _).alloc (by rw[kz6];exact hz) _⟩;rw[Ld.out,EW];exact (Me.out.stored a _).1.alloc _
   case measure=>simp[intOf];omega
  have Qm:(xk==1)=false:=by rw[kqi];exact Ka
  have Ld:=hid (X.out.trans (if_neg Ka));have Me:=hid d;clear Ka X d;go_wp2;go_roundw
  case rel=>exact⟨k+1,by omega,by go_num,by rw[Ld.out];exact Me.out.alloc _,hB.alloc hz _⟩
  case measure=>simp[intOf];omega
 rename World=>wA
 rw[kq5 (by omega)] at d;obtain⟨tl,M⟩:=xq (qu ws.length l);have Ly:=pV ws.length l;rw[M] at d Ly;have Mt:Hid (∀a,tb ws a=tl[a]?.getD 0):=hid λa=>by unfold tb;rw[Qs.out,M]
 have Lj:=hid d;have Ks:=Mf.out.trans (hB.mono Li);have Kk:=hid Ks;have Y:=Ks.size;have Qp:=hid (Rd.below Ms.out hB);clear M d Ks;obtain⟨W3,Lt,E,Kp⟩:=run_make_full (P:=prog) wA wA.heap.size 114 4 i1 (.bool false) 1 underlying114 Lf.out.1 Lf.out.2.1 Lf.out.2.2.1 .i64 .i64 ws.length (by rw[Lf.out.2.2.2];omega) (by unfold maxLen;omega) (kqa _);have Lv:W3.ownsRow wA.heap.size 4 1 (.slice (some ⟨wA.heap.size,0,none⟩) ws.length ws.length) ws.length ((List.replicate ws.length false).flatMap bL):=by rw[wc,<-toList_madeCells_one];have:=E;rw[kxm] at this;exact this
 have Ny:=hid Lv;have Qt:=hid ((kqk wA.heap.size wA).grown Kp (kqa _) (λk hk=>by cases hk));have Ql:wA.heap.size<W3.heap.size:=by have:=Lv.lt wA.heap.size rfl;exact this.2
 clear E Kp Lv;go_wp2_with fail;clear Lt;go_loopw [12,54] (λv i w4=>∃k:Nat,k<=16/\i=.int .i64 k/\w4.ownsRow W3.heap.size 3 1 v (tr ws k).length ((tr ws k).flatMap fZ)/\Below W3.heap.size W3 w4) (λ_ i _=>16-(intOf i).toNat)
 case atStart=>exact⟨0,kqy _,rfl,kza _ _ _ _,kqk _ _⟩
 obtain⟨V,hk2,rfl,d,Kq⟩:=hrel;have Lw:=Kq.size;have Kg:=Qt.out.trans (Kq.mono (kxn Ql));by_cases Mn:V<16
 .obtain ⟨b,off,rfl,Qk,q0,q1,q2⟩:=RdS.at_ (Rd.below Qp.out (Kg.mono hz)) (show V<(slL ws).length by rw[fg];exact Mn);rw[nz] at q0 q1 q2;have G:=hid (C9 ws V);have Lb:=ux ws V;obtain⟨-,-,Q,Ko⟩:=gF (wd ws (112+V));have D:slAt ws V=dJ (wd ws (112+V)):=rfl;rw[<-D] at Q Ko;obtain⟨s,Nq⟩:=xq (slAt ws V);rw[Nq] at q0 q1 q2 G Q Ko;obtain⟨m,Nk⟩:=xq (tr ws V);rw[Nk] at d G Lb;obtain⟨sg,su,sa⟩:=s;dsimp only at q0 q1 q2 G Q Ko;obtain⟨u,rfl⟩:=kq2 Q;rw[kqj] at G;have hk16:(V:Int)<16:=by omega
  have hk00:(0:Int)<=(V:Int):=by omega
  clear D Nq Nk Kg Q;cases su
  .have Lu:=hid (G.out.trans (by simp:m++(if false=true then [u] else [])=m));clear G;go_wp2;go_roundw
   case rel=>exact⟨V+1,by omega,by go_num,by rw[Lu.out];exact d.alloc _,Kq.alloc Lw _⟩
   case measure=>simp[intOf];omega
  have Lu:=hid (show tr ws (V+1)=m++[u] from G.out);clear G;go_wp2_with (at_builtin;refine kze _ rfl _ _ 42 rfl W3.heap.size 3 i0 _ 1 8 underlying42 q.out.1 q.out.2.1 q.out.2.2.1 q.out.2.2.2 rfl (by decide) _ _ _ rfl ((d.alloc _).alloc _) ⟨_,0,none⟩ 1 1 [.int .i64 (u:Int)] rfl rfl (lA _ _ _ (kqm _ _)) (by simp[Value.oneCell']) (by unfold maxLen;omega) (by omega) (by simp;omega) ?_;intro v1 w2 B Z _;have S:=aE (Kq.alloc Lw (.cells #[.int .i64 sg,.bool true,.int .i64 (u:Int)] 52)) (by simp;omega) (d.alloc _) Z);go_roundw
  case rel=>exact⟨V+1,by omega,by go_num,by rw[Lu.out,kqu,kw];exact B,S⟩
  case measure=>simp[intOf];omega
 obtain rfl:V=16:=by omega
 have Lx:=Wk.start ws;have Lb:=ux ws 16;obtain⟨td0,Ll⟩:=xq (tr ws 16);rw[Ll] at Lx d Lb;have Qq:=hid Lx;have Nb:=hid d;have Mw:=hid (ai Ny.out Kq (kqa _));have Eq:nu (List.replicate ws.length false)=ws.length:=by simp[nu]
 have Qf:=hid Eq;have Nv:=hid Kg;clear Ll Lx d Eq Kg;go_wp2_with fail;go_loopg [12] 30000 (λg v w5=>∃(o:List Bool) (J:List Nat),g<=30000/\Hid (Wk ws o J)/\Hid (nu o*9+J.length<=g)/\w5.ownsRow wA.heap.size 4 1 (.slice (some ⟨wA.heap.size,0,none⟩) ws.length ws.length) ws.length (o.flatMap bL)/\w5.ownsRow W3.heap.size 3 1 v J.length (J.flatMap fZ)/\W3.heap.size<=w5.heap.size/\Below wA.heap.size wA w5)
 case atStart=>exact⟨List.replicate ws.length false,td0,kqa _,Qq.out,by show _<=_;rw[Qf.out];omega,Mw.out,Nb.out,Lw,Nv.out⟩
 obtain⟨o,J,hg30,I,Kt,y,f,Ng,S⟩:=hrel;have hz5:=S.size;rcases List.eq_nil_or_concat J with rfl|⟨C,a,rfl⟩
 .have Ln:=I.out.end_;have HV:=hid (Bc Lg.out Qh.out Ln.1);have Qg:=hid I.out.seenL;have Kx:=hid y;rw[kxb] at f;obtain⟨A6,c6,rfl⟩:=aO f;have Le:=hid (Kk.out.trans (S.mono Y));clear Ln y f Kt I;go_wp2;go_ret2;exact⟨.inl ⟨HV.out,wA.heap.size,ws.length,rfl,by rw[<-Qg.out];exact ao Kx.out Y⟩,Le.out⟩
 simp only[List.concat_eq_append,kqu,List.length_singleton] at I Kt f;have O:=Kt.out;rw[kw] at f;obtain⟨gT,cT,rfl⟩:∃g c,u12=.slice (some ⟨g,0,none⟩) (C.length+1) c:=by obtain⟨g,c,h1,_⟩:=f.form (by omega);exact⟨g,c,h1⟩
 have hcT:=cH f;have Eq:=cw fZ 1 sV C;rw[kxm] at Eq;have ct:=(f.cellAt C.length (by omega)).trans (by rw[kxi (by omega),Eq,kvt];rfl:_=some (.int .i64 (a:Int)));have Lo:=Ix f Eq;have hgT:=f.lt gT rfl;have hml:C.length<=30000:=by omega
 have hwl:IntKind.i64.wrap ((C.length:Int)+1-1)=(C.length:Int):=by rw[kqs _ (by omega)];omega
 have hd0:decide ((0:Int)<(C.length:Int)+1)=true:=by rw[kqn];omega
 have t0:(0:Int)<=(C.length:Int):=by omega
 have t1:(C.length:Int)<(C.length:Int)+1:=by omega
 have t2:(C.length:Int)<=(cT:Int):=by omega
 have Le:=hid (Kk.out.trans (S.mono Y));have Qv:=hid f;have Lk:=hid Lo;clear O Eq Lo f;by_cases Lq:a<ws.length
 .have Mv:=ai Lj.out S (kqa _);have ca:=(Mv.cellAt a (by omega)).trans (mL tl a (by omega));have My:=Mt.out a;rw[<-My] at ca;have Qr:decide ((ws.length:Int)<=(a:Int))=false:=by rw[kqc];omega
  have Nn:decide (ws.length<=a)=false:=by rw[kqc];omega
  have Nx:(0:Int)<=(a:Int):=by omega
  have Nr:(a:Int)<(ws.length:Int):=by omega
  clear Mv My;by_cases T:tb ws a=0
  .have HV:=hid (Gm Lg.out (I.out.bad T));rw[T] at ca;clear T y;go_wp2;go_ret2;exact⟨.inr ⟨HV.out,rfl⟩,Le.out⟩
  obtain⟨Ke,Lh⟩:=iH Lg.out T;have Mj:=hid Ke;have Qi:(tb ws a==0)=false:=by rw[kqi];exact T
  have Lb:=I.out.hlen;have cs:=(y.cellAt a (by omega)).trans (Cz o a (by omega));have Qb:=hid T;obtain⟨t,ht⟩:∃t:Nat,(aq (wd ws a)).typ=(t:Int):=⟨wd ws a/512%128,rfl⟩;have Mq:t<8:=by have h7:=(bD _).1 (fP Ke.2.2.2.1);have h5:=Ke.2.2.2.2.1;omega
  have Qd:Hid (flds ws a=bp (wd ws (96+2*t)) (wd ws (96+2*t+1))):=hid (by unfold flds;rw[ht];rfl);rw[ht] at Lh;rw[Lh] at ca Qi;have Qy:=hid Lh;have hwt:IntKind.i64.wrap ((t:Int)+1-1)=(t:Int):=by rw[kqs _ (by omega)];omega
  clear Ke Lh T ht;cases D:o[a]?.getD false
  .rw[D] at cs;have fs:=y.frozenAt a;have Mz:o[a]? = some false:=by rw[kql (by omega)] at D |-;rw[kq8] at D;rw[D]
   have Ni:=hid (I.out.new_ Qb.out);have Qw:=hid (yN Mz);have G:=hid (show (wr.setCell ⟨wA.heap.size,a,none⟩ (.bool true)).ownsRow wA.heap.size 4 1 (.slice (some ⟨wA.heap.size,0,none⟩) ws.length ws.length) ws.length ((o.set a true).flatMap bL) by
    rw[zo];exact (y.stored a (.bool true)).1)
   have Kn:=S.setCell (p:=⟨wA.heap.size,a,none⟩) (kqa _) (.bool true);have No:=hid Kn;have Ky:(wr.setCell ⟨wA.heap.size,a,none⟩ (.bool true)).ownsRow W3.heap.size 3 1 (.slice (some ⟨gT,0,none⟩) C.length cT) C.length (C.flatMap fZ):=IE Lk.out (p:=⟨wA.heap.size,a,none⟩) (by show gT≠wA.heap.size;omega) (.bool true);have Mu:=hid Ky;have c6:=(ai Lj.out Kn (kqa _)).cellAt a (by omega) |>.trans (mL tl a (by omega));rw[<-Mt.out a,Qy.out] at c6;have Kh:=hid (λW (h:RdW W W.heap.size A ws)=>wx A ws c ws.length t W rfl (by omega) Qo Mq h HO.out);unfold F6 at Kh;rw[<-Qd.out] at Kh;clear y Qv;have Na:=te ws a;have Lm:Hid (∀j,j<(flds ws a).length->a+2+j<ws.length):=hid λj hj=>tH Mj.out hj;have Nj:Hid (∀j,mz ws a (j+1)=mz ws a j++(if (flds ws a)[j]? = some 3/\wd ws (a+2+j)≠0 then [min (wd ws (a+2+j)) 2048] else [])):=hid λj=>Bm ws a j;have Qe:Hid (∀j,(mz ws a j).length<=j):=hid λj=>DW ws a j;have Ns:=hid (HR.out.up (Kk.out.trans (Kn.mono Y)) (Kk.out.trans (Kn.mono Y)).size);obtain⟨F,hF⟩:=xq (flds ws a);rw[hF] at Kh Ni Na Lm Nj;have hw2:IntKind.i64.wrap ((a:Int)+2)=(a:Int)+2:=kqs _ (by omega);have O:=Kt.out;clear hF Kn Ky D Mz;go_wp2_with fail
   refine (Kh.out _ Ns.out).mono ?_;rintro e w7 ⟨⟨A7,c7,rfl,Np⟩,Kr⟩;have Qz:=hid Np;have Nz:=hid (No.out.trans (Kr.mono No.out.size));have Nu:=hid (ai G.out Kr (kqa _));have Qa:=hid (ai Mu.out Kr (kqa _));have Nl:W3.heap.size<=w7.heap.size:=by have:=Kr.size;rw[kz6] at this;omega
   clear Kr Np cs ca c6 ct fs;go_wp2_with fail;go_loopw [12,110] (λv i w8=>∃j:Nat,j<=F.length/\i=.int .i64 j/\w8.ownsRow W3.heap.size 3 1 v (C++mz ws a j).length ((C++mz ws a j).flatMap fZ)/\w8.ownsRow wA.heap.size 4 1 (.slice (some ⟨wA.heap.size,0,none⟩) ws.length ws.length) ws.length ((o.set a true).flatMap bL)/\(∃H,w8.ownsRow H 5 1 (.slice A7 F.length c7) F.length (F.flatMap bu))/\W3.heap.size<=w8.heap.size/\Below wA.heap.size wA w8) (λ_ i _=>F.length-(intOf i).toNat)
   case atStart=>exact⟨0,kqy _,rfl,by rw[show C++mz ws a 0=C from kzs C];exact Qa.out,Nu.out,⟨_,Qz.out⟩,Nl,Nz.out⟩
   obtain⟨j,hj,rfl,f,y,⟨H8,Ku⟩,Kz,R⟩:=hrel;have Mg:=R.size;have Mc:(C++mz ws a j).length<=C.length+j:=by rw[kqu];have:=Qe.out j;omega
   by_cases Kv:j<F.length
   .obtain ⟨bF,oF,rfl,hbF,y0⟩:=RdY.at_ (show RdY wr wr.heap.size A7 F from Rd.of_own Ku) Kv;have Nd:=Lm.out j Kv;have Mp:=HR.out.up (Kk.out.trans (R.mono Y)) (Kk.out.trans (R.mono Y)).size;obtain⟨bW,oW,rfl,hbW,x0⟩:=RdW.at_ Mp Nd;rw[<-cA] at x0;have La:=hid (Nj.out j);rw[kql Kv] at La;have Ls:=Qx.out (a+2+j);have Lp:=hid (fO Ku f (by decide));obtain⟨kd,Mr⟩:=xq (F[j]);obtain⟨x,hx⟩:=xq (wd ws (a+2+j));obtain⟨m,Mb⟩:=xq (C++mz ws a j);rw[Mr] at y0 La;rw[hx] at x0 La Ls;rw[Mb] at f Mc;have Kl:Hid (C++mz ws a (j+1)=m++(if some kd=some 3/\x≠0 then [min x 2048] else [])):=hid (by rw[La.out,<-kxs,Mb]);have hji:(j:Int)<(F.length:Int):=by omega
    have hj0:(0:Int)<=(j:Int):=by omega
    have hw3:IntKind.i64.wrap ((a:Int)+2+(j:Int))=(a:Int)+2+(j:Int):=kqs _ (by omega);have i0':(0:Int)<=(a:Int)+2+(j:Int):=by omega
    have i1':(a:Int)+2+(j:Int)<(ws.length:Int):=by omega
    have it':((a:Int)+2+(j:Int)).toNat=a+2+j:=by omega
    have hmm:m.length<=40000:=by omega
    have r:=hid f;have K:=hid y;have Kd:=hid Ku;have HXL:=hid Ls;clear La Mr hx Mb Mp y Ku Nd Ls;by_cases Kb:kd=3
    .have e3:((kd:Int) != 3)=false:=by rw[kqr];omega
     have e3n:(kd != 3)=false:=by rw[kqr];exact Kb
     by_cases Ki:x=0
     .have e0:((x:Int)==0)=true:=by rw[kqw];omega
      have e0n:(x==0)=true:=by rw[kqw];exact Ki
      have HY:=hid (show C++mz ws a (j+1)=m by rw[Kl.out,if_neg (λh=>h.2 Ki),kzs]);clear Kb Ki Kl f;go_wp2;go_roundw
      case rel=>exact⟨j+1,by omega,by go_num,by rw[HY.out];exact r.out,K.out,⟨_,Kd.out⟩,Kz,R⟩
      case measure=>simp[intOf];omega
     have e0:((x:Int)==0)=false:=by rw[kqi];omega
     have e0n:(x==0)=false:=by rw[kqi];exact Ki
     have HY:=hid (show C++mz ws a (j+1)=m++[min x 2048] by rw[Kl.out,if_pos ⟨by rw[Kb],Ki⟩]);clear Kb Ki Kl;have Md:=λ(z:Int) (h0:0<=z) (h1:z<=2048)=>show IntKind.i64.wrap z=z from kqs _ (by omega);have Lc:min x 2048=x/\x<=2048\/min x 2048=2048/\2048<x:=by omega
     rcases Lc with⟨O,Qn⟩|⟨O,Qn⟩
     .rw[O] at HY;have hwx:=Md (x:Int) (by omega) (by omega);have hmin:(if (x:Int)<2048 then (x:Int) else 2048)=(x:Int):=by split<;>omega
      clear Md O;go_wp2_with (at_builtin;refine kze _ rfl _ _ 42 rfl W3.heap.size 3 i0 _ 1 8 underlying42 q.out.1 q.out.2.1 q.out.2.2.1 q.out.2.2.2 rfl (by decide) _ _ _ rfl (r.out.alloc _) ⟨_,0,none⟩ 1 1 [.int .i64 (x:Int)] rfl rfl (cI _ _ _) (by simp[Value.oneCell']) (by unfold maxLen;omega) (by omega) (by simp;omega) ?_;intro v1 w9 B Z _;have Kw:=hid B;have N:=hid Z;clear B Z);go_roundw
      case rel =>
       have Lz:=N.out.size;rw[kqm] at Lz;refine⟨j+1,by omega,by go_num,by rw[HY.out,kqu,kw];exact Kw.out,(K.out.alloc _).kept N.out (.inr ?_),⟨_,(Kd.out.alloc _).kept N.out Lp.out⟩,by omega,(R.alloc Mg _).grown N.out (by rw[kqm];omega) (λk hk=>by have:=(r.out.lt k hk).1;omega)⟩;intro h;have:=(r.out.lt wA.heap.size h.symm).1;omega
      case measure=>simp[intOf];omega
     rw[O] at HY;have hxi1:(2048:Int)<(x:Int):=by omega
     have hxi2:¬ (x:Int)<2048:=by omega
     have hxi3:¬ (x:Int)<=2048:=by omega
     have hxi4:¬ x<2048:=by omega
     have hxi5:¬ x<=2048:=by omega
     clear Md O;go_wp2_with (at_builtin;refine kze _ rfl _ _ 42 rfl W3.heap.size 3 i0 _ 1 8 underlying42 q.out.1 q.out.2.1 q.out.2.2.1 q.out.2.2.2 rfl (by decide) _ _ _ rfl (r.out.alloc _) ⟨_,0,none⟩ 1 1 [.int .i64 2048] rfl rfl (cI _ _ _) (by simp[Value.oneCell']) (by unfold maxLen;omega) (by omega) (by simp;omega) ?_;intro v1 w9 B Z _;have Kw:=hid B;have N:=hid Z;clear B Z);go_roundw
     case rel =>
      have Lz:=N.out.size;rw[kqm] at Lz;refine⟨j+1,by omega,by go_num,by rw[HY.out,kqu,kw];exact Kw.out,(K.out.alloc _).kept N.out (.inr ?_),⟨_,(Kd.out.alloc _).kept N.out Lp.out⟩,by omega,(R.alloc Mg _).grown N.out (by rw[kqm];omega) (λk hk=>by have:=(r.out.lt k hk).1;omega)⟩;intro h;have:=(r.out.lt wA.heap.size h.symm).1;omega
     case measure=>simp[intOf];omega
    have e3:((kd:Int) != 3)=true:=by rw[kqv];omega
    have e3n:(kd != 3)=true:=by rw[kqv];exact Kb
    have HY:=hid (show C++mz ws a (j+1)=m by rw[Kl.out,if_neg (λh=>Kb (Option.some.inj h.1)),kzs]);clear Kb Kl f;go_wp2;go_roundw
    case rel=>exact⟨j+1,by omega,by go_num,by rw[HY.out];exact r.out,K.out,⟨_,Kd.out⟩,Kz,R⟩
    case measure=>simp[intOf];omega
   obtain rfl:j=F.length:=by omega
   have r:=hid f;have K:=hid y;have hfs:=Qw.out;clear f y Ku;go_wp2;go_roundg (gk-1)
   case rel=>exact⟨o.set a true,C++mz ws a F.length,by omega,Ni.out,by show _<=_;omega,K.out,r.out,Kz,R⟩
   case measure=>omega
  rw[D] at cs;have Nt:=hid (I.out.old (show o[a]? = some true by
   rw[kql (by omega)] at D |-;rw[kq8] at D;rw[D]))
  have Kx:=hid y;have O:=Kt.out;clear y D I;go_wp2;go_roundg (gk-1)
  case rel=>exact⟨o,C,by omega,Nt.out,by show _<=_;omega,Kx.out,Lk.out,Ng,S⟩
  case measure=>omega
 have Qr:decide ((ws.length:Int)<=(a:Int))=true:=by rw[kqn];omega
 have Nn:decide (ws.length<=a)=true:=by rw[kqn];omega
 have HV:=hid (Gm Lg.out (I.out.bad (by
  by_cases h:tb ws a=0
  .exact h
  exact absurd (sG h) Lq)))
 clear y Lq;go_wp2;go_ret2;exact⟨.inr ⟨HV.out,rfl⟩,Le.out⟩
def rk (S:List Bool) (k:Nat):List Int:=((List.range k).filter λa=>S[a]?.getD false).map λa:Nat=>(a:Int)
theorem Cu(ws:List Nat):(seenL ws).length=ws.length:=by simp[seenL]
theorem kF(h:a<ws.length):(seenL ws)[a]?.getD false=true↔Rch ws a:=by unfold seenL;rw[kxf,kvq h];simp
theorem ei(h:aC ws=0):eh ws=rk (seenL ws) ws.length:=by
 unfold eh rk;rw[if_pos h];congr 1;refine List.filter_congr λa d=>?_;have b:=kF (ws:=ws) (kzj.1 d);cases c:(seenL ws)[a]?.getD false
 .rw[c] at b
  simpa using b
 rw[c] at b
 simpa using b
theorem vK(h:aC ws≠0):eh ws=[]:=by unfold eh;rw[if_neg h]
theorem xj(h:ah ws≠0):aC ws=ah ws:=by unfold aC;rw[if_neg h]
end Go.Proofs.YtpcajamacpbjcaaGreat
