/- Texts laid together: RchP Hnd Hnd2 Flds Rch Rcd. -/
import Derived.Test.YtpcajamacpbjcaaGreatZKHead
import Derived.Test.YtpcajamacpbjcaaGreatZKHeap
import Derived.Deep.RegionHeld3
import Derived.Deep.DrawnRows
import Derived.Laws.OwnMore
set_option maxHeartbeats 16000000
set_option maxRecDepth 100000
set_option linter.all false
namespace Go.Proofs.YtpcajamacpbjcaaGreat
open Lib (hid)
variable {fn:Func}{seen:List Bool}{todo ws:List Nat}{xs:List Value}{B H a b c g i j k n sz x:Nat}{A:Option Addr}{p q:Tmp}{e t:TypeId}{u:Value}{W w w':World}
open Go.Proofs.Tryz
structure Sl where
 gen:Int
 used:Bool
 at_:Int
 deriving DecidableEq,Inhabited
def Sl.cells (x:Sl):List Value:=[.int .i64 x.gen,.bool x.used,.int .i64 x.at_]
theorem Sl.len(x:Sl):x.cells.length=3:=rfl
def dB (w:Nat):Sl:=⟨((w/4294967296%2147483648:Nat):Int),w/9223372036854775808==1,((w%4294967296:Nat):Int)⟩
def mA (s:Sl):Bool:=if s.used=true then decide (0<s.gen)&&(decide (128<=s.at_)&&decide (s.at_<2048)) else s.at_==0
def slAt (ws:List Nat) (i:Nat):Sl:=dB (wd ws (112+i))
def nY (ws:List Nat) (k:Nat):Prop:=∀i,i<k->mA (slAt ws i)=true
theorem o8(ws:List Nat):nY ws 0:=λi h=>absurd h (by omega)
theorem od(h:nY ws k)(h1:mA (slAt ws k)=true):nY ws (k+1):=λi hi=>by
 rcases kq6 i k with a|a
 .exact h i a
 .have:i=k:=by omega
  subst this;exact h1
def slsOk (ws:List Nat):Bool:=(List.range 16).all λi=>mA (slAt ws i)
theorem cN(ws:List Nat):slsOk ws=true↔nY ws 16:=by unfold slsOk nY;rw[kzu];exact⟨λh i a=>h i (kzh.2 a),λh i a=>h i (kzh.1 a)⟩
theorem rR(hk:k<16)(h:mA (slAt ws k)=false):slsOk ws=false:=by
 cases a:slsOk ws with
 | false=>rfl
 | true=>rw[(cN ws).1 a k hk] at h;cases h
def slL (ws:List Nat):List Sl:=(List.range 16).map (slAt ws)
theorem eZ(ws:List Nat):(slL ws).length=16:=by simp[slL]
theorem mR(ws:List Nat)(h:i<(slL ws).length):(slL ws)[i]=slAt ws i:=by simp[slL]
def dA (ws:List Nat):Int:=if aj (ws.length:Int)=true then (if slsOk ws=true then 0 else 50) else 8
def eX (ws:List Nat):List Sl:=if dA ws=0 then slL ws else []
theorem wM(h:aj (ws.length:Int)=false):dA ws=8:=by simp[dA,h]
theorem lv(h:aj (ws.length:Int)=true)(h2:slsOk ws=false):dA ws=50:=by simp[dA,h,h2]
theorem jp(h:aj (ws.length:Int)=true)(h2:slsOk ws=true):dA ws=0/\eX ws=slL ws:=by simp[eX,dA,h,h2]
theorem gA(w:Nat):0<=(dB w).gen/\(dB w).gen<=2147483647/\0<=(dB w).at_/\(dB w).at_<=4294967295:=by unfold dB;dsimp only;have h1:=kz0 (w/4294967296) (show 0<2147483648 by omega);have h2:=kz0 w (show 0<4294967296 by omega);omega
theorem Bu{s:Sl}(h:mA s=true)(hu:s.used=true):0<s.gen/\128<=s.at_/\s.at_<2048:=by
 unfold mA at h;rw[if_pos hu] at h
 simpa using h
def pz (n:Nat) (l:List Bk):List Int:=l.foldl (λt b=>if b.kind=1 then t.set b.at_.toNat (b.typ+1) else t) (List.replicate n 0)
theorem zy{l:List Bk}(hk:k<l.length):pz n (l.take (k+1))=if l[k].kind=1 then (pz n (l.take k)).set l[k].at_.toNat (l[k].typ+1) else pz n (l.take k):=by unfold pz;rw[kqo hk,List.foldl_append];rfl
theorem ro(t:List Int)(l:List Bk):(l.foldl (λt b=>if b.kind=1 then t.set b.at_.toNat (b.typ+1) else t) t).length=t.length:=by
 induction l generalizing t with
 | nil=>rfl
 | cons b l ih=>simp only[kxy];rw[ih];split<;>simp
theorem pk(n:Nat)(l:List Bk):(pz n l).length=n:=by unfold pz;rw[ro,kjl]
theorem Cw(l:List Bk)(t:List Int)(P:Nat->Int->Prop)(h0:∀a,(t[a]?.getD 0)=0\/P a (t[a]?.getD 0))(h1:∀b∈l,b.kind=1->P b.at_.toNat (b.typ+1))(a:Nat):
 ((l.foldl (λt b=>if b.kind=1 then t.set b.at_.toNat (b.typ+1) else t) t)[a]?.getD 0)=0\/P a ((l.foldl (λt b=>if b.kind=1 then t.set b.at_.toNat (b.typ+1) else t) t)[a]?.getD 0):=by
 induction l generalizing t with
 | nil=>exact h0 a
 | cons b l ih =>
  simp only[kxy];refine ih _ (λa=>?_) (λx c=>h1 x (by simp[c]));split
  .rename_i hk;rw[kxe];split
   .rename_i e;subst e;split
    .right;exact h1 b (by simp) hk
    left;rfl
   exact h0 a
  exact h0 a
theorem GD(l:List Bk)(t:List Int)(a:Nat)(ha:a<t.length)(h:(t[a]?.getD 0)≠0\/∃b∈l,b.kind=1/\b.at_.toNat=a)(hty:∀b∈l,b.kind=1->0<=b.typ):
 ((l.foldl (λt b=>if b.kind=1 then t.set b.at_.toNat (b.typ+1) else t) t)[a]?.getD 0)≠0:=by
 induction l generalizing t with
 | nil =>
  rcases h with h|⟨b,i,-⟩
  .exact h
  cases i
 | cons b l ih =>
  simp only[kxy];refine ih _ (by split<;>simp[ha]) ?_ (λx c=>hty x (by simp[c]));by_cases f:b.kind=1
  .rw[if_pos f,kxe];by_cases e:b.at_.toNat=a
   .left;rw[if_pos e,if_pos (by omega)];have:=hty b (by simp) f;simp only[kq9,ne_eq];omega
   rw[if_neg e];rcases h with h|⟨x,c,d,g⟩
   .exact .inl h
   rcases kqx.1 c with rfl|c
   .exact absurd g e
   exact .inr ⟨x,c,d,g⟩
  rw[if_neg f];rcases h with h|⟨x,c,d,g⟩
  .exact .inl h
  rcases kqx.1 c with rfl|c
  .exact absurd d f
  exact .inr ⟨x,c,d,g⟩
def tb (ws:List Nat) (a:Nat):Int:=(pz ws.length (ag ws))[a]?.getD 0
theorem rZ(h:tb ws a≠0):a<ws.length:=by
 rcases kq6 a ws.length with b|b
 .exact b
 unfold tb at h;rw[kzb (by rw[pk];exact b)] at h;exact absurd rfl h
def fQ (ws:List Nat) (a:Nat):Prop:=128<=a/\a%2=0/\a<ws.length/\stands ws a=true/\(ar (wd ws a)).kind=1/\dC ws (bkAt ws a)=true/\∃k,∃h:k<(ag ws).length,(ag ws)[k]=bkAt ws a/\blocks ws a=some ((ag ws).drop k)
theorem ol(h:ah ws=0)(hk:k<(ag ws).length)(h1:(ag ws)[k].kind=1):∃a,(ag ws)[k]=bkAt ws a/\fQ ws a:=by obtain⟨hs,l,e,c,g⟩:=ay h;subst g;obtain⟨a,b,f,i,j,d,m⟩:=b9 _ _ e (by omega) k hk;refine⟨a,b,i,f,j,d,by rw[b] at h1;exact h1,?_,k,hk,b,m⟩;rw[kzu] at c;rw[<-b];exact c _ (kqp hk)
theorem iy(h:ah ws=0)(ht:tb ws a≠0):fQ ws a/\tb ws a=(ar (wd ws a)).typ+1:=by
 have c:=Cw (ag ws) (List.replicate ws.length 0) (λa v=>fQ ws a/\v=(ar (wd ws a)).typ+1) (λa=>.inl (by
  rw[kj8];split<;>rfl)) (λb f i=>by
  obtain⟨k,d,rfl⟩:=kqz f;obtain⟨a,e,g⟩:=ol h d i;rw[e];have:(bkAt ws a).at_.toNat=a:=by rw[ae,kqj]
  rw[this];exact⟨g,rfl⟩) a
 exact c.resolve_left ht
theorem obj_tb(h:ah ws=0)(ho:fQ ws a):tb ws a=(ar (wd ws a)).typ+1/\tb ws a≠0:=by
 obtain⟨h1,h2,i,h4,n,h6,k,l,e,h8⟩:=ho;have c:tb ws a≠0:=by unfold tb pz;refine GD _ _ _ (by rw[kjl];exact i) (.inr ⟨_,kqp l,by rw[e];exact n,by rw[e,ae,kqj]⟩) (λb j d=>?_);obtain⟨m,f,rfl⟩:=kqz j;obtain⟨a',g,e2⟩:=ol h f d;rw[g];show 0<=((_:Nat):Int);omega
 exact⟨(iy h c).2,c⟩
def flds (ws:List Nat) (a:Nat):List Nat:=a8 (wd ws (96+2*(ar (wd ws a)).typ.toNat)) (wd ws (96+2*(ar (wd ws a)).typ.toNat+1))
theorem AU(ws:List Nat)(a:Nat):(flds ws a).length<=8:=kR _ _
theorem sP(h:fQ ws a)(hi:i<(flds ws a).length):a+2+i<ws.length:=by
 obtain⟨h1,h2,h3,j,f,e,-⟩:=h;have hs:=aH j;have g:dC ws (bkAt ws a)=cZ ws (bkAt ws a):=by
  unfold dC;have:((bkAt ws a).kind != 1)=false:=by rw[kqq];exact f
  rw[this,Bool.false_or]
 have c:=i9 (ws:=ws) (b:=bkAt ws a) f;rw[g] at e;rw[g,e] at c;have c:=c.symm;simp only[kqt,kqw] at c;have d:=c.2;rw[bq] at d;have h8:(flds ws a).length=(a8 (wd ws (tyA (bkAt ws a))) (wd ws (tyA (bkAt ws a)+1))).length:=rfl;unfold aY at d;omega
inductive Rch (ws:List Nat):Nat->Prop
 | slot (i:Nat) (hi:i<16) (hu:(slAt ws i).used=true):Rch ws (slAt ws i).at_.toNat
 | ref (a i:Nat) (ha:Rch ws a) (ht:tb ws a≠0) (hi:(flds ws a)[i]? = some 3) (hv:wd ws (a+2+i)≠0):Rch ws (min (wd ws (a+2+i)) 2048)
def oB (ws:List Nat):Prop:=∀a,Rch ws a->tb ws a≠0
def mi (ws:List Nat) (a:Nat) (j:Nat):List Nat:=(List.range j).filterMap λi=>if (flds ws a)[i]? = some 3/\wd ws (a+2+i)≠0 then some (min (wd ws (a+2+i)) 2048) else none
theorem Ca(ws:List Nat)(a j:Nat):mi ws a (j+1)=mi ws a j++(if (flds ws a)[j]? = some 3/\wd ws (a+2+j)≠0 then [min (wd ws (a+2+j)) 2048] else []):=by unfold mi;rw[kkv,kk6];congr 1;simp only[kvh,kvo];split<;>simp_all
theorem Dp(ws:List Nat)(a j:Nat):(mi ws a j).length<=j:=by unfold mi;have:=kkp (λi=>if (flds ws a)[i]? = some 3/\wd ws (a+2+i)≠0 then some (min (wd ws (a+2+i)) 2048) else none) (List.range j);rwa [kkg] at this
theorem DC(h:x∈mi ws a j):∃i,(flds ws a)[i]? = some 3/\wd ws (a+2+i)≠0/\x=min (wd ws (a+2+i)) 2048:=by
 unfold mi at h;rw[kjz] at h;obtain⟨i,-,b⟩:=h;split at b
 .rename_i h3;injection b with b;exact⟨i,h3.1,h3.2,b.symm⟩
 cases b
theorem CV(h1:(flds ws a)[i]? = some 3)(h2:wd ws (a+2+i)≠0):min (wd ws (a+2+i)) 2048∈mi ws a (flds ws a).length:=by unfold mi;rw[kjz];refine⟨i,kzh.2 (kza.1 h1).1,?_⟩;rw[if_pos ⟨h1,h2⟩]
structure Wk (ws:List Nat) (seen:List Bool) (todo:List Nat):Prop where
 hlen:seen.length=ws.length
 htodo:∀a∈todo,Rch ws a
 hseen:∀a,seen[a]? = some true->Rch ws a/\tb ws a≠0
 hslot:∀i,i<16->(slAt ws i).used=true->(slAt ws i).at_.toNat∈todo\/seen[(slAt ws i).at_.toNat]? = some true
 href:∀a i,seen[a]? = some true->(flds ws a)[i]? = some 3->wd ws (a+2+i)≠0->min (wd ws (a+2+i)) 2048∈todo\/seen[min (wd ws (a+2+i)) 2048]? = some true
theorem Wk.bad(h:Wk ws seen (todo++[a]))(h0:tb ws a=0):¬ oB ws:=λb=>b a (h.htodo a (by simp)) h0
theorem Wk.old(h:Wk ws seen (todo++[a]))(h1:seen[a]? = some true):Wk ws seen todo:=by
 have c:∀x,x∈todo++[a]\/seen[x]? = some true->x∈todo\/seen[x]? = some true:=by
  intro x b;rcases b with b|b
  .rcases kz1.1 b with b|b
   .exact .inl b
   rw[kq0] at b;subst b;exact .inr h1
  exact .inr b
 exact⟨h.hlen,λx b=>h.htodo x (by simp[b]),h.hseen,λi d f=>c _ (h.hslot i d f),λx i b g e=>c _ (h.href x i b g e)⟩
theorem Wk.new_(h:Wk ws seen (todo++[a]))(h0:tb ws a≠0):Wk ws (seen.set a true) (todo++mi ws a (flds ws a).length):=by
 have k:=h.hlen;have j:=rZ h0;have c:∀x,(seen.set a true)[x]? = some true↔x=a\/seen[x]? = some true:=by
  intro x;rw[kxe];by_cases e:a=x
  .subst e;simp[k,j]
  rw[if_neg e];constructor
  .exact .inr
  rintro (g|g)
  .exact absurd g.symm e
  exact g
 have f:∀x,x∈todo++[a]\/seen[x]? = some true->x∈todo++mi ws a (flds ws a).length\/(seen.set a true)[x]? = some true:=by
  intro x b;rw[c];rcases b with b|b
  .rcases kz1.1 b with b|b
   .exact .inl (by simp[b])
   rw[kq0] at b;exact .inr (.inl b)
  exact .inr (.inr b)
 have d:Rch ws a:=h.htodo a (by simp);refine⟨by rw[kq4];exact k,λx b=>?_,λx b=>?_,λi o q=>f _ (h.hslot i o q),λx i b l m=>?_⟩
 .rcases kz1.1 b with b|b
  .exact h.htodo x (by simp[b])
  obtain⟨i,n,p,rfl⟩:=DC b;exact Rch.ref a i d h0 n p
 .rcases (c x).1 b with rfl|b
  .exact ⟨d,h0⟩
  exact h.hseen x b
 rcases (c x).1 b with rfl|b
 .exact .inl (by rw[kz1];exact .inr (CV l m))
 exact f _ (h.href x i b l m)
theorem Wk.end_(h:Wk ws seen []):oB ws/\∀a,seen[a]? = some true↔Rch ws a:=by
 have b:∀a,Rch ws a->seen[a]? = some true:=by
  intro a c
  induction c with
  | slot i hi hu=>exact (h.hslot i hi hu).resolve_left (by simp)
  | ref a i c ht hi hv ih=>exact (h.href a i ih hi hv).resolve_left (by simp)
 exact⟨λa c=>(h.hseen a (b a c)).2,λa=>⟨λd=>(h.hseen a d).1,b a⟩⟩
def tB (ws:List Nat) (k:Nat):List Nat:=(List.range k).filterMap λi=>if (slAt ws i).used=true then some (slAt ws i).at_.toNat else none
theorem Ah(ws:List Nat)(k:Nat):tB ws (k+1)=tB ws k++(if (slAt ws k).used=true then [(slAt ws k).at_.toNat] else []):=by unfold tB;rw[kkv,kk6];congr 1;simp only[kvh,kvo];split<;>simp_all
theorem uA(ws:List Nat)(k:Nat):(tB ws k).length<=k:=by unfold tB;have:=kkp (λi=>if (slAt ws i).used=true then some (slAt ws i).at_.toNat else none) (List.range k);rwa [kkg] at this
theorem Wk.start(ws:List Nat):Wk ws (List.replicate ws.length false) (tB ws 16):=by
 have d:∀a:Nat,(List.replicate ws.length false)[a]? ≠ some true:=by intro a;rw[kj8];split<;>simp
 refine⟨kjl,λa b=>?_,λa b=>absurd b (d a),λi e f=>.inl ?_,λa i b=>absurd b (d a)⟩
 .unfold tB at b;rw[kjz] at b;obtain⟨i,e,c⟩:=b;split at c
  .rename_i h3;injection c with c;subst c;exact Rch.slot i (kzh.1 e) h3
  cases c
 unfold tB;rw[kjz];exact⟨i,kzh.2 e,by rw[if_pos f]⟩
open Classical in
noncomputable def aA (ws:List Nat):Int:=if ah ws=0 then (if slsOk ws=true then (if oB ws then 0 else 50) else 50) else ah ws
open Classical in
noncomputable def seenL (ws:List Nat):List Bool:=(List.range ws.length).map λa=>decide (Rch ws a)
open Classical in
noncomputable def dX (ws:List Nat):List Int:=if aA ws=0 then ((List.range ws.length).filter λa=>decide (Rch ws a)).map (λa:Nat=>(a:Int)) else []
theorem Wk.seenL(h:Wk ws seen []):seen=seenL ws:=by
 have g:=h.end_.2;apply kx3;intro a;unfold Proofs.YtpcajamacpbjcaaGreat.seenL;by_cases c:a<ws.length
 .have b:a<seen.length:=by rw[h.hlen];exact c
  rw[kxl,kvi c,kqk b];simp only[kzz,Option.some.injEq];have:=g a;rw[kqk b,Option.some.injEq] at this;cases d:seen[a] with
  | true=>rw[d] at this;simp[this.1 rfl]
  | false =>
   rw[d] at this;have e:¬ Rch ws a:=λf=>by have:=this.2 f;cases this
   simp[e]
 rw[kzb (by rw[h.hlen];omega),kzb (by simp;omega)]
def ni (l:List Bool):Nat:=(l.filter (! ·)).length
theorem wo{l:List Bool}(h:l[a]? = some false):ni (l.set a true)+1=ni l:=by
 induction l generalizing a with
 | nil=>simp at h
 | cons b l ih =>
  cases a with
  | zero =>simp only[List.getElem?_cons_zero,Option.some.injEq] at h;subst h;simp[ni]
  | succ a =>simp only[List.getElem?_cons_succ] at h;have:=ih h;unfold ni at this |-;cases b<;>simp_all<;>omega
open Go.RowKit
def Sl.val (x:Sl):Value:=.agg #[.int .i64 x.gen,.bool x.used,.int .i64 x.at_]
theorem uQ(g:Int)(u:Bool)(a:Int)(w:World)(h1:0<=g)(h2:g<=2147483647):
 Calls prog 171 #[.agg #[.int .i64 g,.bool u,.int .i64 a]] w λe w'=>e=.returned (.bool (mA ⟨g,u,a⟩))/\Below w.heap.size w w':=by
 have d:=(kql w.heap.size w).alloc (kqd _) (.cells #[.int .i64 g,.bool u,.int .i64 a] 52);have i:=hid d;have d1:decide (g<0)=false:=by rw[kqh];omega
 have d2:decide (2147483647<g)=false:=by rw[kqh];omega
 clear d;cases u
 .have H:Hid (mA ⟨g,false,a⟩=(a==0)):=hid rfl;go_enter func171,ntmps171;go_wp2;go_ret;exact⟨by rw[H.out];rfl,i.out⟩
 have H:Hid (∀b:Bool,b=(decide (0<g)&&(decide (128<=a)&&decide (a<2048)))->mA ⟨g,true,a⟩=b):=hid λb h=>by rw[h];rfl
 have c:(∃b,decide (0<g)=b)/\(∃b,decide (128<=a)=b)/\∃b,decide (a<2048)=b:=⟨⟨_,rfl⟩,⟨_,rfl⟩,⟨_,rfl⟩⟩;obtain⟨⟨k,j⟩,⟨l,m⟩,⟨o,n⟩⟩:=c;have f:=hid (H.out _ rfl);rw[j,m,n] at f;clear H h1 h2;cases k<;>cases l<;>cases o
 all_goals
  go_enter func171,ntmps171;go_wp2;go_ret;exact⟨by rw[f.out];rfl,i.out⟩
def slB (x:Nat):Sl:=if mA (dB x)=true then dB x else ⟨0,false,0⟩
def xN (x:Nat):Int:=if mA (dB x)=true then 0 else 50
theorem wT(h:mA (dB x)=true):slB x=dB x/\xN x=0:=by simp[slB,xN,h]
theorem v9(h:mA (dB x)=false):slB x=⟨0,false,0⟩/\xN x=50:=by simp[slB,xN,h]
theorem jL(h:fn.results=#[.cell p 52,.tmp q])(tmps:Array Value){v0 v1 v2:Value}(hb:Bx W g t #[v0,v1,v2])(hp:tmps.getD p undef=.pointer (some ⟨g,0,none⟩))(hq:tmps.getD q undef=u):
 (results fn tmps).run prog W=.ok (.tuple #[.agg #[v0,v1,v2],u]) W:=by obtain⟨b,c,a,-⟩:=hb.c3;rw[kxq] at hp hq;simp[results,h,hp,hq,go_sem,b,c,a]
theorem F9(x:Nat)(hx:x<18446744073709551616):bits BinOp.and .u64 ((x:Int)/4294967296) 2147483647=((x/4294967296%2147483648:Nat):Int)/\bits BinOp.and .u64 (x:Int) 4294967295=((x%4294967296:Nat):Int) /\
 (((x:Int)/9223372036854775808)==1)=(x/9223372036854775808==1):=by
 refine⟨?_,tf (k:=32) (m:=4294967295) hx rfl (by omega),?_⟩
 .have a:x/4294967296<18446744073709551616:=by omega
  have h:=tf (k:=31) (m:=2147483647) a rfl (by omega);exact h
 rw[kzg,kqw,kqw];omega
theorem Di(x:Nat)(w:World)(hx:x<18446744073709551616):
 Calls prog 111 #[.int .u64 (x:Int)] w λe w'=>e=.returned (.tuple #[(slB x).val,.int .i64 (xN x)])/\Below w.heap.size w w':=by
 obtain⟨t,y,z⟩:=F9 x hx;obtain⟨o,n,A,p⟩:=gA x;have d:=hid (λh=>wT (x:=x) h);have i:=hid (λh=>v9 (x:=x) h);have c:=hid (λW=>uQ (dB x).gen (dB x).used (dB x).at_ W o n);have hx0:(0:Int)<=(x:Int):=by omega
 have B:((x/4294967296%2147483648:Nat):Int)=(dB x).gen:=rfl;have I:((x%4294967296:Nat):Int)=(dB x).at_:=rfl;have C:(x/9223372036854775808==1)=(dB x).used:=rfl;rw[B] at t;rw[I] at y;rw[C] at z;clear B I C hx;obtain⟨s,D⟩:=xq (dB x);rw[D] at t y z o n A p c d i;obtain⟨g,u,a⟩:=s;dsimp only at t y z o n A p c;have w1:IntKind.i64.wrap g=g:=kqs _ (by omega);have w2:IntKind.i64.wrap a=a:=kqs _ (by omega);have G:=Bx.new w 52 #[.int .i64 0,.bool false,.int .i64 0];have F:=hid (G.alloc (.cells #[.int .i64 g,.bool u,.int .i64 a] 52));have r:=Bx.new (w.alloc (.cells #[.int .i64 0,.bool false,.int .i64 0] 52)) 52 #[.int .i64 g,.bool u,.int .i64 a];rw[kqm] at r;have H:=hid r;have E:=hid (((kql w.heap.size w).alloc (kqd _) (.cells #[.int .i64 0,.bool false,.int .i64 0] 52)).alloc (cB (kqd _)) (.cells #[.int .i64 g,.bool u,.int .i64 a] 52));obtain⟨q,J⟩:∃q,mA ⟨g,u,a⟩=q:=⟨_,rfl⟩;rw[J] at c d i;clear G r D J o n A p;go_enter func111,ntmps111;go_wp2_with fail;refine (c.out _).mono ?_;rintro e w3 ⟨rfl,b⟩;have f:=F.out.up b F.out.lt;have m:=H.out.up b H.out.lt;have l:=hid (E.out.trans (b.mono E.out.size));obtain⟨p0,p1,p2,f0,f1,f2,hg0⟩:=f.c3;obtain⟨n0,n1,n2,-⟩:=m.c3;have j:=hid f;clear f m b;cases q
 .have k:=hid (i.out rfl);go_wp2_with fail;exact kqr (v:=.tuple #[.agg #[.int .i64 0,.bool false,.int .i64 0],.int .i64 50]) (jL results111 _ (((j.out.set_ 0 _).set_ 1 _).set_ 2 _) rfl rfl) rfl ⟨by rw[k.out.1,k.out.2];rfl,((l.out.setCell (kqd _) _).setCell (kqd _) _).setCell (kqd _) _⟩
 have k:=hid (d.out rfl);go_wp2_with fail;exact kqr (v:=.tuple #[.agg #[.int .i64 g,.bool u,.int .i64 a],.int .i64 0]) (jL results111 _ (((j.out.set_ 0 _).set_ 1 _).set_ 2 _) rfl rfl) rfl ⟨by rw[k.out.1,k.out.2];rfl,((l.out.setCell (kqd _) _).setCell (kqd _) _).setCell (kqd _) _⟩
def noSl:Sl:=⟨0,false,0⟩
def kD (ws:List Nat) (k:Nat):List Sl:=(List.range 16).map λi=>if i<k then slAt ws i else noSl
def ij (l:List Sl):Array Value:=(l.flatMap Sl.cells).toArray
theorem jr(ws:List Nat)(k:Nat):(kD ws k).length=16:=by simp[kD]
theorem mZ(ws:List Nat)(k j:Nat)(hj:j<16):(kD ws k)[j]? = some (if j<k then slAt ws j else noSl):=by simp[kD,hj]
theorem vp(ws:List Nat)(k:Nat)(hk:k<16):kD ws (k+1)=(kD ws k).set k (slAt ws k):=by
 apply kx3;intro j;rw[kxe];by_cases a:j<16
 .rw[mZ _ _ _ a,mZ _ _ _ a];by_cases e:k=j
  .subst e;rw[if_pos (show k<k+1 by omega),if_pos rfl,if_pos (by rw[jr];exact hk)]
  rw[if_neg e];by_cases h:j<k
  .rw[if_pos h,if_pos (by omega)]
  rw[if_neg h,if_neg (by omega)]
 rw[kzb (by rw[jr];omega),if_neg (by omega),kzb (by rw[jr];omega)]
theorem wy(ws:List Nat):kD ws 0=List.replicate 16 noSl:=by
 apply kx3;intro j;by_cases a:j<16
 .rw[mZ _ _ _ a,if_neg (by omega),kj8,if_pos a]
 rw[kzb (by rw[jr];omega),kzb (by simp;omega)]
theorem AJ(ws:List Nat):kD ws 16=slL ws:=by unfold kD slL;apply kz4;intro i a;rw[if_pos (kzh.1 a)]
theorem sl_set(l:List Sl)(k:Nat)(x:Sl):(l.set k x).flatMap Sl.cells=(((l.flatMap Sl.cells).set (k*3) (.int .i64 x.gen)).set (k*3+1) (.bool x.used)).set (k*3+2) (.int .i64 x.at_):=by
 have d:=eF Sl.cells 3 Sl.len l k 0 (by omega) ⟨x.gen,(l[k]?.getD default).used,(l[k]?.getD default).at_⟩ (.int .i64 x.gen) (λy a=>by rw[a];rfl);have b:=eF Sl.cells 3 Sl.len (l.set k ⟨x.gen,(l[k]?.getD default).used,(l[k]?.getD default).at_⟩) k 1 (by omega) ⟨x.gen,x.used,(l[k]?.getD default).at_⟩ (.bool x.used) (λy a=>by
  rw[kxe] at a;simp only[if_true] at a;split at a
  .cases a;rfl
  cases a)
 have c:=eF Sl.cells 3 Sl.len (l.set k ⟨x.gen,x.used,(l[k]?.getD default).at_⟩) k 2 (by omega) x (.int .i64 x.at_) (λy a=>by
  rw[kxe] at a;simp only[if_true] at a;split at a
  .cases a;rfl
  cases a)
 rw[List.set_set] at b c;rw[c,b,d];rfl
theorem yF(l:List Sl)(k:Nat)(x:Sl):(((ij l).setIfInBounds (k*3) (.int .i64 x.gen)).setIfInBounds (k*3+1) (.bool x.used)).setIfInBounds (k*3+2) (.int .i64 x.at_)=ij (l.set k x):=by unfold ij;rw[sl_set];simp
theorem ip(l:List Sl):(ij l).size=l.length*3:=by unfold ij;rw[kjq,cj Sl.cells 3 Sl.len]
theorem Sl.one(x:Sl):∀u∈x.cells,u.oneCell'=true:=by intro u a;simp only[Sl.cells,kqx,kzf,or_false] at a;rcases a with rfl|rfl|rfl<;>rfl
theorem kQ(l:List Sl):(ij l).all (·.oneCell')=true:=by unfold ij;rw[List.all_toArray,kzu];exact dF Sl.one l
def bP:Array Value:=ij (List.replicate 16 noSl)
theorem f9:bP.size=48:=by unfold bP;rw[ip,kjl]
theorem lJ:bP.all (·.oneCell')=true:=kQ _
theorem np(w:World):(zeroValue 118).run prog w=.ok (.agg bP) w:=by kernel_rfl
theorem Hs(w:World):(Instr.build 118 #[]).run prog w=.ok (.agg bP) w:=by kernel_rfl
theorem kb:(prog.info? 118).map (·.size)=some 48:=by kernel_rfl
theorem lj(l:List Sl)(h:j<l.length*3):∃u,(ij l)[j]? = some u:=by have:=ip l;exact⟨_,kjh (by omega)⟩
theorem j8(h:fn.results=#[.cell p 118,.tmp q])(tmps:Array Value){cs:Array Value}(hb:Bx W g t cs)(hs:cs.size=48)(hp:tmps.getD p undef=.pointer (some ⟨g,0,none⟩))(hq:tmps.getD q undef=u):
 (results fn tmps).run prog W=.ok (.tuple #[.agg cs,u]) W:=by
 have b:tmps[p]?.getD undef=.pointer (some ⟨g,0,none⟩):=by simpa using hp
 have a:tmps[q]?.getD undef=u:=by simpa using hq
 have d:(prog.info? 118).map (·.size)=some cs.size:=by rw[hs];exact kb
 have c:=run_loadVar_row W g t 118 cs (0,0) _ hb underlying118 rfl d;simp[results,h,b,a,asAddr,c]
def opV (ws:List Nat):Value:=.agg (if dA ws=0 then ij (slL ws) else bP)
theorem FI(h:dA ws=0):opV ws=.agg (ij (slL ws)):=by simp[opV,h]
theorem CA(h:dA ws≠0):opV ws=.agg bP:=by simp[opV,h]
theorem yt(A:Option Addr)(ws:List Nat)(c n:Nat)(w:World)(hn:ws.length=n)(hm:n<=9223372036854775807)(hr:RdW w w.heap.size A ws)(ho:∀x∈ws,x<18446744073709551616):
 Calls prog 64 #[.slice A n c] w λe w'=>e=.returned (.tuple #[opV ws,.int .i64 (dA ws)])/\Below w.heap.size w w':=by
 subst hn;have HR:=hid hr;have Jc:Hid (∀k,wd ws k<18446744073709551616):=hid (fF ho);have hzv:=np;have hbv:=Hs;have u:=f9;have V:=hid lJ;have o:=kb;have b0:=Bx.new w 118 bP;have C:=(kql w.heap.size w).alloc (kqd _) (.cells bP 118);clear hr ho;cases D:aj (ws.length:Int)
 .have HI:=hid (bD D);have R:=wM D;have B:=hid (And.intro R (CA (by rw[R];omega)));have H:=hid b0;have I:=hid C;rw[<-u] at o;have t:=o;clear D R b0 C o;go_enter func64,ntmps64;go_wp2_with fail;refine (aE A ws.length c _ hm).mono ?_;rintro e w1 ⟨rfl,rfl⟩;rw[HI.out];go_wp2_with (first
   | ((with_reducible refine aq 118 (.tmp 2) _ ?_);refine ak rfl _ _ _ rfl w.heap.size 118 bP bP (by rfl) (by rfl) H.out rfl t V.out ?_;intro w3 Eq Y;have g:=hid Eq;have Je:=hid Y;clear Eq Y))
  exact kqr (v:=.tuple #[.agg bP,.int .i64 8]) (j8 results64 _ g.out u rfl rfl) rfl ⟨by rw[B.out.1,B.out.2],Je.out.below I.out (kqd _)⟩
 have HI:=hid (aX D);obtain⟨hb1,hb2,-⟩:=gJ ws D;have HS:=hid D;obtain⟨b,off,rfl,hb,-⟩:=RdW.at_ HR.out (show 0<ws.length by omega);have Jd:Hid (∀k (h:k<ws.length) (W:World),Below w.heap.size w W->W.cell? ⟨b,off+k,none⟩=some (.int .u64 (wd ws k:Int))):=hid λk h W O=>by
  obtain⟨b',off',e',-,h0⟩:=RdW.at_ (Rd.below HR.out O) h;cases e';rw[<-cq] at h0;exact h0
 have H:=hid b0;have I:=hid C;rw[<-u] at o;have t:=o;clear D b0 C o;go_enter func64,ntmps64;go_wp2_with fail;refine (aE _ ws.length c _ hm).mono ?_;rintro e w1 ⟨rfl,rfl⟩;rw[HI.out];go_wp2_with fail;go_loopw [15] (λi wr=>∃k:Nat,k<=16/\i=.int .i64 k/\Hid (nY ws k)/\Bx wr w.heap.size 118 bP/\Bx wr (w.heap.size+1) 118 (ij (kD ws k))/\Below w.heap.size w wr) (λi _=>16-(intOf i).toNat)
 case atStart =>
  have x1:=Bx.new (w.alloc (.cells bP 118)) 118 bP;rw[kqm] at x1;exact⟨0,kqy _,rfl,o8 ws,H.out.alloc _,by rw[wy];exact x1,I.out.alloc (by simp) _⟩
 obtain⟨k,hk,rfl,Ja,q0,N,O⟩:=hrel;have hz:=O.size;have U:=hid q0;have Q1:=hid N;by_cases T:k<16
 .have h0:=Jd.out (112+k) (by omega) _ O;have a:=hid (λW=>Di (wd ws (112+k)) W (Jc.out _));have E:=hid (λh=>od Ja.out h);have F:=hid (λh=>lv HS.out (rR T h));have m:dB (wd ws (112+k))=slAt ws k:=rfl;have Jb:=hid (vp ws k T);have hsz:=jr ws k;obtain⟨u0,J⟩:=lj (kD ws k) (j:=k*3) (by omega);obtain⟨u1,L⟩:=lj (kD ws k) (j:=k*3+1) (by omega);obtain⟨u2,M⟩:=lj (kD ws k) (j:=k*3+2) (by omega);have i1:(0:Int)<=112+(k:Int):=by omega
  have i2:(112:Int)+(k:Int)<(ws.length:Int):=by omega
  have n1:((112:Int)+(k:Int)).toNat=112+k:=by omega
  have hk1:(k:Int)<16:=by omega
  have hk0:(0:Int)<=(k:Int):=by omega
  obtain⟨x,hx⟩:=xq (wd ws (112+k));rw[hx] at h0 a m;cases d:mA (slAt ws k)
  .have R:=F.out d;have B:=hid (And.intro R (CA (by rw[R];omega)));rw[<-m] at d;rw[(v9 d).1,(v9 d).2] at a;unfold Sl.val at a;dsimp only at a;clear hx d R m F E q0 N J L M;go_wp2_with fail;refine (a.out _).mono ?_;rintro e w3 ⟨rfl,f⟩;have r:=hid (U.out.up f U.out.lt);have g:=hid (O.trans (f.mono hz));clear f;go_wp2_with (first
    | ((with_reducible refine aq 118 (.tmp 2) _ ?_);refine ak rfl _ _ _ rfl w.heap.size 118 bP bP (by rfl) (by rfl) (r.out.alloc _) rfl t V.out ?_;intro w4 z p;have G:=hid z;have Q:=hid p;clear z p))
   exact kqr (v:=.tuple #[.agg bP,.int .i64 50]) (j8 results64 _ G.out u rfl rfl) rfl ⟨by rw[B.out.1,B.out.2],Q.out.below (g.out.alloc g.out.size _) (kqd _)⟩
  have S:=hid (E.out d);rw[<-m] at d;rw[(wT d).1,(wT d).2,m] at a;have q:=yF (kD ws k) k (slAt ws k);rw[<-Jb.out] at q;have y:=hid q;obtain⟨s,Z⟩:=xq (slAt ws k);rw[Z] at a y;obtain⟨sg,su,sa⟩:=s;unfold Sl.val at a;dsimp only at a y;clear hx d m Z q F E q0 N;go_wp2_with fail;refine (a.out _).mono ?_;rintro e w3 ⟨rfl,f⟩;have r:=Q1.out.up f Q1.out.lt;have Q3:=hid r;have Q4:=hid (U.out.up f U.out.lt);have hg3:=r.lt;have d0:=(r.cell (k*3)).trans J;have d1:=(r.cell (k*3+1)).trans L;have d2:=(r.cell (k*3+2)).trans M;have f0:=r.frozen (k*3);have f1:=r.frozen (k*3+1);have f2:=r.frozen (k*3+2);have g:=hid (O.trans (f.mono hz));clear f r J L M;go_wp2;go_roundw
  case rel =>
   refine⟨k+1,by omega,by go_num,S.out,(((Q4.out.far (by simp) _).far (by simp) _).far (by simp) _).alloc _,?_,(((g.out.setCell (by simp) _).setCell (by simp) _).setCell (by simp) _).alloc (by simpa using g.out.size) _⟩;rw[<-y.out];exact (((Q3.out.set_ (k*3) _).set_ (k*3+1) _).set_ (k*3+2) _).alloc _
  case measure=>simp[intOf];omega
 obtain rfl:k=16:=by omega
 have P:=jp HS.out ((cN ws).2 Ja.out);have B:=hid (And.intro P.1 (FI P.1));rw[AJ] at N;have l:(ij (slL ws)).size=48:=by rw[ip,eZ]
 obtain⟨cs,K⟩:=xq (ij (slL ws));have h1:cs.all (·.oneCell')=true:=by rw[<-K];exact kQ _
 have H1:=hid h1;rw[K] at N B l;have Q5:=hid N;have X:(prog.info? 118).map (·.size)=some cs.size:=by rw[l];exact kb
 have Jf:cs.size=bP.size:=by rw[l,u]
 clear q0 N P K h1;go_wp2_with (first
  | ((with_reducible refine aM 118 (.tmp 5) ?_);refine kxf rfl _ _ rfl (w.heap.size+1) (by rfl) 118 cs (0,0) _ Q5.out underlying118 (by rfl) X ?_)
  | ((with_reducible refine aq 118 (.tmp 2) _ ?_);refine ak rfl _ _ _ rfl w.heap.size 118 bP cs (by rfl) (by rfl) U.out Jf X H1.out ?_;intro w4 z p;have G:=hid z;have Q:=hid p;clear z p))
 exact kqr (v:=.tuple #[.agg cs,.int .i64 0]) (j8 results64 _ G.out l rfl rfl) rfl ⟨by rw[B.out.1,B.out.2],Q.out.below O (kqd _)⟩
theorem Rd.of_box{cs:Array Value}(h:Bx w g t cs)(hg:g<B):Rd w B (some ⟨g,0,none⟩) cs.toList:=λ_ =>
 ⟨g,0,rfl,hg,λj hj=>by
  rw[kxa,h.cell j]
  simp⟩
def RdS (w:World) (B:Nat) (A:Option Addr) (l:List Sl):Prop:=Rd w B A (l.flatMap Sl.cells)
theorem RdS.at_{l:List Sl}(h:RdS w B A l)(hk:k<l.length):
 ∃b a,A=some ⟨b,a,none⟩/\b<B/\w.cell? ⟨b,a+k*3,none⟩=some (.int .i64 l[k].gen)/\w.cell? ⟨b,a+k*3+1,none⟩=some (.bool l[k].used)/\w.cell? ⟨b,a+k*3+2,none⟩=some (.int .i64 l[k].at_):=by obtain⟨b,a,e,d,c⟩:=Rd.at_flat Sl.len h (by omega) hk;exact⟨b,a,e,d,c 0 (by omega),c 1 (by omega),c 2 (by omega)⟩
def GO (ws:List Nat) (e:Ending) (w':World):Prop:=∃A c,e=.returned (.tuple #[.slice A (eX ws).length c,.int .i64 (dA ws)])/\RdS w' w'.heap.size A (eX ws)/\(eX ws).length<=c
theorem EU(A:Option Addr)(ws:List Nat)(c n:Nat)(w:World)(hn:ws.length=n)(hm:n<=9223372036854775807)(s:RdW w w.heap.size A ws)(ho:∀x∈ws,x<18446744073709551616):
 Calls prog 25 #[.slice A n c] w λe w'=>GO ws e w'/\Below w.heap.size w w':=by
 have k:=hid (yt A ws c n w hn hm s ho);clear s ho hn hm;have o:=f9;by_cases h:dA ws=0
 .have b:eX ws=slL ws:=by simp[eX,h]
  have i:=hid (And.intro h b);have D:=eZ ws;rw[h,FI h] at k;have d:(ij (slL ws)).size=48:=by rw[ip,eZ]
  obtain⟨l,y⟩:=xq (slL ws);rw[y] at d k D i;have z:Hid (ij l=(l.flatMap Sl.cells).toArray):=hid rfl;have I:=hid (kQ l);have H:=hid D;obtain⟨cs,v⟩:=xq (ij l);rw[v] at k d z I;have j:(prog.info? 118).map (·.size)=some cs.size:=by rw[d];exact kb
  clear h b y v D o;go_enter func25,ntmps25;go_wp2_with fail;refine k.out.mono ?_;rintro e t ⟨rfl,a⟩;have F:=np;have E:cs.size=bP.size:=by rw[d,f9]
  have u:=Bx.new t 118 bP;have G:=hid u;have q:=hid (a.alloc a.size (.cells bP 118));have m:=a.size;clear u a;go_wp2_with (first
   | ((with_reducible refine aq 118 (.tmp 4) _ ?_);refine ak rfl _ _ _ rfl t.heap.size 118 bP cs (by rfl) (by rfl) G.out E j I.out ?_;intro J g f;have C:=hid g;have p:=hid (f.below q.out m);clear g f))
  go_ret2;refine⟨⟨some ⟨t.heap.size,0,none⟩,16,by rw[i.out.1,i.out.2,H.out];rfl,?_,by rw[i.out.2,H.out];omega⟩,p.out⟩;rw[i.out.2];have:=C.out;rw[z.out] at this;exact Rd.of_box this this.lt
 have b:eX ws=[]:=by simp[eX,h]
 have i:=hid b;rw[CA h] at k;obtain⟨r,s⟩:=xq (dA ws);have K:=hid s;rw[s] at k h;have hrn:(r != 0)=true:=by rw[kqv];exact h
 have m:=hid lJ;have j:(prog.info? 118).map (·.size)=some bP.size:=by rw[o];exact kb
 clear h b s o;go_enter func25,ntmps25;go_wp2_with fail;refine k.out.mono ?_;rintro e t ⟨rfl,a⟩;have F:=np;have u:=Bx.new t 118 bP;have G:=hid u;have q:=hid (a.alloc a.size (.cells bP 118));have B:=a.size;clear u a;go_wp2_with (first
  | ((with_reducible refine aq 118 (.tmp 4) _ ?_);refine ak rfl _ _ _ rfl t.heap.size 118 bP bP (by rfl) (by rfl) G.out rfl j m.out ?_;intro J g f;have C:=hid g;have p:=hid (f.below q.out B);clear g f))
 go_ret2;exact⟨⟨none,0,by rw[K.out,i.out];rfl,by rw[i.out];exact Rd.nil_,by rw[i.out];exact kqd _⟩,p.out⟩
def lV (H:Nat) (a b:Nat) (e:Ending) (w':World):Prop:=∃A c,e=.returned (.tuple #[.slice A (a8 a b).length c,.int .i64 (eJ a b)])/\w'.ownsRow H 5 1 (.slice A (a8 a b).length c) (a8 a b).length ((a8 a b).flatMap bi)
theorem ko(h:ch a b=false):lV H a b (.returned (.tuple #[.slice none 0 0,.int .i64 50])) w':=by
 have c:a8 a b=[]:=by simp[a8,h]
 have d:eJ a b=50:=by simp[eJ,h]
 exact⟨none,0,by rw[c,d];rfl,by rw[c];exact kq8 _ _ _ _⟩
theorem xL{v:Value}(h0:ch a b=true)(h:w'.ownsRow H 5 1 v (dl a).length ((dl a).flatMap bi)):lV H a b (.returned (.tuple #[v,.int .i64 0])) w':=by
 have d:a8 a b=dl a:=by simp[a8,h0]
 have e:eJ a b=0:=by simp[eJ,h0]
 obtain⟨A,c,rfl⟩:=aJ h;exact⟨A,c,by rw[d,e],by rw[d];exact h⟩
theorem tL(a b:Nat)(w:World)(ha:a<18446744073709551616)(hb:b<18446744073709551616):
 Calls prog 117 #[.int .u64 (a:Int),.int .u64 (b:Int)] w λe w'=>lV w.heap.size a b e w'/\Below w.heap.size w w':=by
 have J:=hid (j9 a b);have ha0:(0:Int)<=(a:Int):=by omega
 have e1:=(th a ha).1;have n:=hid (eY a);have D:=hid (λk h=>pW a k h);have T:=hid (λk=>uB a k ha);have X:a%256<256:=kz0 _ (by omega);obtain⟨m,A⟩:=xq (a%256);rw[A] at e1 n D J X;by_cases h8:8<m
 .have Y:=hid (show ch a b=false by rw[J.out,show decide (m<=8)=false by rw[kqh];omega];rfl);clear A ha hb;go_enter func117,ntmps117;go_wp2;go_ret2;exact⟨ko Y.out,kql _ _⟩
 have C:m<=8:=by omega
 rw[show decide (m<=8)=true by rw[kqn];exact C] at J;have hx0:(0:Int)<=(m:Int):=by omega
 have HA:=hid ha;have Y:=hid hb;have d8:decide ((8:Int)<(m:Int))=false:=by rw[kqh];omega
 clear A ha hb h8 X;obtain⟨i0,Z,B,G,K⟩:=kzv kT;have HI:=hid Z;have P:=hid B;have S:=hid G;have R:=hid K;clear Z B G K;go_enter func117,ntmps117;go_wp2_with fail;go_loopw [7,16] (λv i wr=>∃k:Nat,k<=m/\i=.int .u64 k/\wr.ownsRow w.heap.size 5 1 v k (((dl a).take k).flatMap bi)/\Below w.heap.size w wr) (λ_ i _=>m-(intOf i).toNat)
 case atStart=>exact⟨0,kqy _,rfl,kq8 _ _ _ _,kql _ _⟩
 obtain⟨k,hk,rfl,c,y⟩:=hrel;have N:=y.size;by_cases E:k<m
 .have Q:=T.out k;have L:=D.out k E;obtain⟨x,V⟩:=xq (a/4 ^ (k+4)%4);have hx3:x<4:=by rw[<-V];exact kz0 _ (by omega)
  rw[V] at Q L;have F:=hid (show ((dl a).take (k+1)).flatMap bi=((dl a).take k).flatMap bi++[.int .u8 (x:Int)] by
   have W:k<(dl a).length:=by rw[n.out];exact E
   rw[kqo W,ce];rw[kqk W] at L;rw[Option.some.inj L];rfl)
  have hxi:(x:Int)<4:=by omega
  have hx00:(0:Int)<=(x:Int):=by omega
  have hki:(k:Int)<(m:Int):=by omega
  clear V L;go_wp2_with (at_builtin;refine kzd _ rfl _ _ 113 rfl w.heap.size 5 i0 _ 1 1 underlying113 HI.out P.out S.out R.out rfl (by decide) _ _ _ rfl (c.alloc _) ⟨_,0,none⟩ 1 1 [.int .u8 (x:Int)] rfl rfl (cC _ _ _) (by simp[Value.oneCell']) (by unfold maxLen;omega) (by omega) (cB y.size) ?_;intro v1 M j U _;have f:=aC y y.size c U);go_roundw
  case rel=>exact⟨k+1,by omega,by go_num,by rw[F.out];exact j,f⟩
  case measure=>simp[intOf];omega
 obtain rfl:k=m:=by omega
 rw[kq5 (by rw[n.out];exact kqd _)] at c;obtain⟨A1,c1,rfl⟩:=aJ c;have z:=hid (ux A1 (dl a) c1 k wr n.out (by omega) (Rd.of_own c));have g:(dl a).length<=8:=by rw[n.out];exact C
 cases l:dE (dl a)
 .have r:=hid (lK g l);have I:=hid (show ch a b=false by rw[J.out,l];rfl);have O:=hid (show kwV (dl a)=.agg #[.int .u64 0,.int .u64 0] by simp[kwV,r.out,yL]);rw[r.out,O.out] at z;clear l g c;go_wp2_with fail;refine z.out.mono ?_;rintro e M ⟨rfl,f⟩;have d:=y.trans (f.mono N);go_wp2;go_ret2;exact⟨ko I.out,d.alloc d.size _⟩
 have r:=hid (ju g l);have O:=hid (show kwV (dl a)=.agg #[.int .u64 (gV (dl a):Nat),.int .u64 (gM (gV (dl a)):Nat)] by simp[kwV,r.out,yL]);have u:=hid (show ch a b=(gV (dl a)==a&&gM (gV (dl a))==b) by
  rw[J.out,l];by_cases h:gV (dl a)=a
  .rw[h];simp
  rw[show (gV (dl a)==a)=false by rw[kqi];exact h];simp only[kxw,kj2])
 rw[r.out,O.out] at z;obtain⟨p,hp⟩:=xq (gV (dl a));obtain⟨q,hq⟩:=xq (gM p);rw[hp,hq] at z u;clear l g hp hq;by_cases s:p=a
 .by_cases t:q=b
  .have HY:=hid (show ch a b=true by rw[u.out,s,t];simp);have o:=o0 p q a b;rw[show ((p:Int)==(a:Int))=true by rw[kqw];omega,show ((q:Int)==(b:Int))=true by rw[kqw];omega,Bool.and_self] at o;clear s t;go_wp2_with fail;refine z.out.mono ?_;rintro e M ⟨rfl,f⟩;have d:=y.trans (f.mono N);have j:=ai c f (kqd _);go_wp2;go_ret2;refine⟨xL HY.out (H:=w.heap.size) ?_,d.alloc d.size _⟩;rw[n.out];exact j.alloc _
  have I:=hid (show ch a b=false by rw[u.out,show (q==b)=false by rw[kqi];exact t,kj2]);have o:=o0 p q a b;rw[show ((q:Int)==(b:Int))=false by rw[kqi];omega,kj2] at o;clear s t c;go_wp2_with fail;refine z.out.mono ?_;rintro e M ⟨rfl,f⟩;have d:=y.trans (f.mono N);go_wp2;go_ret2;exact⟨ko I.out,d.alloc d.size _⟩
 have I:=hid (show ch a b=false by rw[u.out,show (p==a)=false by rw[kqi];exact s,kxw]);have o:=o0 p q a b;rw[show ((p:Int)==(a:Int))=false by rw[kqi];omega,kxw] at o;clear s c;go_wp2_with fail;refine z.out.mono ?_;rintro e M ⟨rfl,f⟩;have d:=y.trans (f.mono N);go_wp2;go_ret2;exact⟨ko I.out,d.alloc d.size _⟩
def Fh (H:Nat) (a b:Nat) (e:Ending) (w':World):Prop:=∃A c,e=.returned (.tuple #[.slice A (a8 a b).length c,.bool (ch a b)])/\w'.ownsRow H 5 1 (.slice A (a8 a b).length c) (a8 a b).length ((a8 a b).flatMap bi)
theorem vN(A:Option Addr)(ws:List Nat)(c n t:Nat)(w:World)(hn:ws.length=n)(hm:n<=1000000)(h2:256<=n)(ht:t<8)(hr:RdW w w.heap.size A ws)(ho:∀x∈ws,x<18446744073709551616):
 Calls prog 110 #[.slice A n c,.int .i64 (t:Int)] w λe w'=>Fh w.heap.size (wd ws (96+2*t)) (wd ws (96+2*t+1)) e w'/\Below w.heap.size w w':=by
 subst hn;have r:=fF ho (96+2*t);have o:=fF ho (96+2*t+1);have k:=hid (λW=>tL (wd ws (96+2*t)) (wd ws (96+2*t+1)) W r o);have j:=hid (mF (wd ws (96+2*t)) (wd ws (96+2*t+1)));obtain⟨b,a,rfl,q,l⟩:=RdW.at_ hr (show 96+2*t<ws.length by omega);obtain⟨b',off',s,-,i⟩:=RdW.at_ hr (show 96+2*t+1<ws.length by omega);cases s;rw[<-cq] at l i;obtain⟨x,f⟩:=xq (wd ws (96+2*t));obtain⟨y,g⟩:=xq (wd ws (96+2*t+1));rw[f] at l k j |-;rw[g] at i k j |-;have t0:(0:Int)<=(t:Int):=by omega
 have t8:(t:Int)<8:=by omega
 have w1:IntKind.i64.wrap (2*(t:Int))=2*(t:Int):=kqs _ (by omega);have w2:IntKind.i64.wrap (96+2*(t:Int))=96+2*(t:Int):=kqs _ (by omega);have w3:IntKind.i64.wrap (96+2*(t:Int)+1)=96+2*(t:Int)+1:=kqs _ (by omega);have i1:(0:Int)<=96+2*(t:Int):=by omega
 have i2:(96:Int)+2*(t:Int)<(ws.length:Int):=by omega
 have i3:(0:Int)<=96+2*(t:Int)+1:=by omega
 have i4:(96:Int)+2*(t:Int)+1<(ws.length:Int):=by omega
 have n1:((96:Int)+2*(t:Int)).toNat=96+2*t:=by omega
 have n2:((96:Int)+2*(t:Int)+1).toNat=96+2*t+1:=by omega
 clear hr r o f g ho ht;go_enter func110,ntmps110;go_wp2_with fail
 go_region_held3 (λX:World=>X.cell? ⟨b,a+(96+2*t),none⟩=some (.int .u64 (x:Int))/\X.cell? ⟨b,a+(96+2*t+1),none⟩=some (.int .u64 (y:Int))) (go_keep)
  (first | (go_at_call 117;refine (k.out _).mono ?_;rintro e w5 ⟨⟨v,u,rfl,h⟩,d⟩;have m0:=(d.cell (p:=⟨b,a+(96+2*t),none⟩) q).trans l;have m1:=(d.cell (p:=⟨b,a+(96+2*t+1),none⟩) q).trans i;have m:=hid h;clear h))
 go_wp2;go_ret2;exact⟨⟨v,u,by rw[j.out];rfl,m.out⟩,(kql _ _).drew.trans d⟩
def fP (x:Nat):List Value:=[.int .i64 (x:Int)]
def bE (x:Bool):List Value:=[.bool x]
theorem rN(x:Nat):(fP x).length=1:=rfl
theorem fM(x:Bool):(bE x).length=1:=rfl
theorem Ak(n:Nat):(List.replicate n (0:Int)).flatMap cQ=List.replicate n (.int .i64 0):=by
 induction n with
 | zero=>rfl
 | succ n ih=>rw[kjt,kzy,ih,kjt];rfl
theorem wU(n:Nat):(List.replicate n false).flatMap bE=List.replicate n (.bool false):=by
 induction n with
 | zero=>rfl
 | succ n ih=>rw[kjt,kzy,ih,kjt];rfl
theorem Df(l:List Int)(k:Nat)(x:Int):(l.set k x).flatMap cQ=(l.flatMap cQ).set k (.int .i64 x):=by
 have:=eF cQ 1 jg l k 0 (by omega) x (.int .i64 x) (λy _=>rfl)
 simpa using this
theorem yT(l:List Bool)(k:Nat)(x:Bool):(l.set k x).flatMap bE=(l.flatMap bE).set k (.bool x):=by
 have:=eF bE 1 fM l k 0 (by omega) x (.bool x) (λy _=>rfl)
 simpa using this
theorem mB(l:List Int)(k:Nat)(h:k<l.length):(l.flatMap cQ)[k]? = some (.int .i64 (l[k]?.getD 0)):=by
 have:=iM cQ 1 jg l k 0 h (by omega)
 simpa [cQ,h] using this
theorem zK(l:List Bool)(k:Nat)(h:k<l.length):(l.flatMap bE)[k]? = some (.bool (l[k]?.getD false)):=by
 have:=iM bE 1 fM l k 0 h (by omega)
 simpa [bE,h] using this
theorem Dx:(prog.info? 3).map (λi=>(i.zero,i.size,i.bytes))=some (some (.int .i64 0),1,8):=by kernel_rfl
theorem Bo:(prog.info? 4).map (λi=>(i.zero,i.size,i.bytes))=some (some (.bool false),1,1):=by kernel_rfl
open Classical in
theorem Ap(h:ah ws=0)(h1:slsOk ws=true)(h2:oB ws):aA ws=0:=by simp[aA,h,h1,h2]
open Classical in
theorem rc_sl(h:ah ws=0)(h1:slsOk ws=false):aA ws=50:=by simp[aA,h,h1]
open Classical in
theorem E3(h:ah ws=0)(h2:¬ oB ws):aA ws=50:=by simp[aA,h,h2]
theorem kp(l:List Nat)(x:Nat):(l++[x]).flatMap fP=l.flatMap fP++[.int .i64 (x:Int)]:=by simp[fP]
theorem FW{ys:List Value}(h:w.ownsRow H e 1 (.slice (some ⟨g,0,none⟩) (n+1) c) (n+1) (xs++ys))(hx:xs.length=n):w.ownsRow H e 1 (.slice (some ⟨g,0,none⟩) n c) n xs:=by
 refine⟨by rw[hx,kxo],.inr ?_⟩;rcases h.2 with⟨a,_⟩|⟨g',cap,b,a,i,f,h4,l,j,k⟩
 .cases a
 simp only[Value.slice.injEq,Option.some.injEq,Addr.mk.injEq,and_true,true_and] at a;obtain⟨rfl,rfl⟩:=a;refine⟨g,c,b,rfl,i,f,by omega,l,j,?_⟩;have d:=congrArg (List.take n) k;rw[kka,kxo,kxc (by omega),List.take_left' hx] at d;rw[kxo];exact d
theorem aZ(h:w.ownsRow H e sz (.slice A n c) n xs):n<=c:=by obtain⟨A',c',b,a,-⟩:=kC h;cases b;exact a
theorem Gu(h:w.ownsRow H e sz (.slice (some ⟨g,0,none⟩) n c) n xs){p:Addr}(hp:g≠p.block)(u:Value):(w.setCell p u).ownsRow H e sz (.slice (some ⟨g,0,none⟩) n c) n xs:=by
 refine⟨h.1,?_⟩;rcases h.2 with⟨a,_⟩|⟨j,d,b,a,i,f,k⟩
 .cases a
 refine .inr ⟨j,d,b,a,i,?_,k⟩;simp only[Value.slice.injEq,Option.some.injEq,Addr.mk.injEq,and_true,true_and] at a;obtain⟨rfl,rfl⟩:=a;exact (kkq w p u g hp).trans f
def RcRes (ws:List Nat) (B:Nat) (e:Ending) (w':World):Prop:=
 (aA ws=0/\∃g c,e=.returned (.tuple #[.slice (some ⟨g,0,none⟩) ws.length c,.int .i64 0])/\w'.ownsRow B 4 1 (.slice (some ⟨g,0,none⟩) ws.length c) ws.length ((seenL ws).flatMap bE)) \/
 (aA ws=50/\e=.returned (.tuple #[.slice none 0 0,.int .i64 50]))
theorem CF(A L:Option Addr)(ws:List Nat)(c cl n:Nat)(l:List Bk)(w:World)(hn:ws.length=n)(hm:n<=9223372036854775807)(h0:ah ws=0)(hl:ag ws=l)(hr:RdW w w.heap.size A ws)(hrl:RdB w w.heap.size L l)(ho:∀x∈ws,x<18446744073709551616):
 Calls prog 63 #[.slice A n c,.slice L l.length cl] w λe w'=>RcRes ws w.heap.size e w'/\Below w.heap.size w w':=by
 subst hn;have HR:=hid hr;have HL:=hid hrl;have HO:=hid ho;obtain⟨hs,-⟩:=ay h0;have Nb:=gJ ws hs;obtain⟨Nr,hb2,-⟩:=Nb;have Nf:Hid (∀k,wd ws k<18446744073709551616):=hid (fF ho);have Kb:=hid (EU A ws c ws.length w rfl hm hr ho);unfold GO at Kb;have Kj:=hid h0;clear hr hrl ho;cases Jl:slsOk ws
 .have he:=lv hs Jl;have hq:eX ws=[]:=by simp[eX,he]
  rw[he,hq] at Kb;have HV:=hid (rc_sl h0 Jl);clear hs Jl he hq h0;go_enter func63,ntmps63;go_wp2_with fail;refine Kb.out.mono ?_;rintro e w1 ⟨⟨A1,c1,rfl,-,-⟩,Ja⟩;go_wp2;go_ret2;exact⟨.inr ⟨HV.out,rfl⟩,Ja⟩
 obtain⟨g1,g2⟩:=jp hs Jl;rw[g1,g2,eZ] at Kb;have Nt:=hid Jl;obtain⟨i0,hi,Lp,Me,Lu⟩:=kzv Dx;obtain⟨i1,hj,Mj,Mc,Lh⟩:=kzv Bo;have q:=hid (And.intro hi (And.intro Lp (And.intro Me Lu)));have Kd:=hid (And.intro hj (And.intro Mj (And.intro Mc Lh)));have Nj:=jh ws;rw[hl] at Nj;have Nn:=hid hl;have Lz:Hid (∀k (h:k<l.length),l[k].kind=1->∃a t:Nat,l[k].at_=(a:Int)/\l[k].typ=(t:Int)/\a<ws.length/\t<128):=hid (by
  subst hl;intro k h h1;obtain⟨a,e1,e2⟩:=ol h0 h h1;refine⟨a,wd ws a/512%128,by rw[e1];rfl,by rw[e1];rfl,e2.2.2.1,kz0 _ (by omega)⟩)
 clear hl;clear hs Jl g1 g2 hi Lp Me Lu hj Mj Mc Lh h0;go_enter func63,ntmps63;go_wp2_with fail;refine Kb.out.mono ?_;rintro e w1 ⟨⟨A1,c1,rfl,Mm,-⟩,Ja⟩;have Nk:=hid Mm;obtain⟨W2,Ld,E,Kc⟩:=run_make_full (P:=prog) w1 w1.heap.size 42 3 i0 (.int .i64 0) 1 underlying42 q.out.1 q.out.2.1 q.out.2.2.1 .i64 .i64 ws.length (by rw[q.out.2.2.2];omega) (by unfold maxLen;omega) (kqd _);have Lv:W2.ownsRow w1.heap.size 3 1 (.slice (some ⟨w1.heap.size,0,none⟩) ws.length ws.length) ws.length ((pz ws.length (l.take 0)).flatMap cQ):=by show W2.ownsRow _ _ _ _ _ ((List.replicate ws.length (0:Int)).flatMap cQ);rw[Ak,<-toList_madeCells_one];have:=E;rw[kxo] at this;exact this
 have Jh:=(kql w1.heap.size w1).grown Kc (kqd _) (λk hk=>by cases hk);have Ms:=hid Lv;have Lt:=hid Ja;have HB2:=hid (Ja.trans (Jh.mono Ja.size));have Lj:=hid Jh;have Mb:=hid Nk.out;have Kn:=Ja.size;have hz2w:=Jh.size;clear Mm E Kc Lv Jh Ja;go_wp2_with fail;clear Ld;go_loopw [34] (λi wr=>∃k:Nat,k<=l.length/\i=.int .i64 k/\wr.ownsRow w1.heap.size 3 1 (.slice (some ⟨w1.heap.size,0,none⟩) ws.length ws.length) ws.length ((pz ws.length (l.take k)).flatMap cQ)/\Below w1.heap.size w1 wr) (λi _=>l.length-(intOf i).toNat)
 case atStart=>exact⟨0,kqy _,rfl,Ms.out,Lj.out⟩
 obtain⟨k,hk,rfl,d,hB⟩:=hrel;have hz:=hB.size;by_cases Kt:k<l.length
 .have Jy:=Lt.out.trans (hB.mono Kn);obtain⟨b,off,rfl,Nz,q0,q1,q2,q3,q4,q5⟩:=RdB.at_ (Rd.below HL.out Jy) Kt;have U:=hid (zy (n:=ws.length) Kt);have Le:=hid (Lz.out k Kt);have Kx:=pk ws.length (l.take k);obtain⟨x,hx⟩:=xq (l[k]);obtain⟨tl,J⟩:=xq (pz ws.length (l.take k));rw[hx] at q0 q1 q2 q3 q4 q5 U Le;rw[J] at U d Kx;obtain⟨xa,xs,xk,xt,xm,xn⟩:=x;dsimp only at q0 q1 q2 q3 q4 q5 U Le;have hlm:(k:Int)<(l.length:Int):=by omega
  clear hx J;by_cases Jc:xk=1
  .obtain ⟨a,t,ha,ht,Ks,Mi⟩:=Le.out Jc;subst ha ht;have Nq:(xk==1)=true:=by rw[kqw];exact Jc
   have Ke:=hid (U.out.trans (if_pos Jc));simp only[kqj] at Ke;have hw1:IntKind.i64.wrap ((t:Int)+1)=(t:Int)+1:=kqs _ (by omega);have Nd:(a:Int)<(ws.length:Int):=by omega
   have Nv:(0:Int)<=(a:Int):=by omega
   have T:=d.alloc (.cells #[.int .i64 (a:Int),.int .i64 xs,.int .i64 xk,.int .i64 (t:Int),.bool xm,.int .u64 (xn:Int)] 55);have c0:=(d.cellAt a (by omega)).trans (mB tl a (by omega));have f0:=d.frozenAt a;have c0':=(T.cellAt a (by omega)).trans (mB tl a (by omega));have f0':=T.frozenAt a;obtain⟨u,hu⟩:=xq (tl[a]?.getD 0);rw[hu] at c0 c0';have hgw:=(d.lt _ rfl).2;have Ky:=hid d;clear T;clear Jc hu U d;go_wp2;go_roundw
   case rel =>
    refine⟨k+1,by omega,by go_num,?_,(hB.setCell (p:=⟨w1.heap.size,a,none⟩) (kqd _) _).alloc (by rw[kxb];exact hz) _⟩;rw[Ke.out,Df];exact (Ky.out.stored a _).1.alloc _
   case measure=>simp[intOf];omega
  have Nq:(xk==1)=false:=by rw[kqi];exact Jc
  have Ke:=hid (U.out.trans (if_neg Jc));have Ky:=hid d;clear Jc U d;go_wp2;go_roundw
  case rel=>exact⟨k+1,by omega,by go_num,by rw[Ke.out];exact Ky.out.alloc _,hB.alloc hz _⟩
  case measure=>simp[intOf];omega
 rename World=>wA
 rw[kq5 (by omega)] at d;obtain⟨tl,J⟩:=xq (pz ws.length l);have Kx:=pk ws.length l;rw[J] at d Kx;have Mf:Hid (∀a,tb ws a=tl[a]?.getD 0):=hid λa=>by unfold tb;rw[Nn.out,J]
 have Kk:=hid d;have Jy:=Lt.out.trans (hB.mono Kn);have Ji:=hid Jy;have Eq:=Jy.size;have Nh:=hid (Rd.below Mb.out hB);clear J d Jy;obtain⟨W3,Ld,E,Kc⟩:=run_make_full (P:=prog) wA wA.heap.size 114 4 i1 (.bool false) 1 underlying114 Kd.out.1 Kd.out.2.1 Kd.out.2.2.1 .i64 .i64 ws.length (by rw[Kd.out.2.2.2];omega) (by unfold maxLen;omega) (kqd _);have La:W3.ownsRow wA.heap.size 4 1 (.slice (some ⟨wA.heap.size,0,none⟩) ws.length ws.length) ws.length ((List.replicate ws.length false).flatMap bE):=by rw[wU,<-toList_madeCells_one];have:=E;rw[kxo] at this;exact this
 have Ng:=hid La;have Qb:=hid ((kql wA.heap.size wA).grown Kc (kqd _) (λk hk=>by cases hk));have Ny:wA.heap.size<W3.heap.size:=by have:=La.lt wA.heap.size rfl;exact this.2
 clear E Kc La;go_wp2_with fail;clear Ld;go_loopw [12,54] (λv i w4=>∃k:Nat,k<=16/\i=.int .i64 k/\w4.ownsRow W3.heap.size 3 1 v (tB ws k).length ((tB ws k).flatMap fP)/\Below W3.heap.size W3 w4) (λ_ i _=>16-(intOf i).toNat)
 case atStart=>exact⟨0,kqy _,rfl,kq8 _ _ _ _,kql _ _⟩
 obtain⟨Y,hk2,rfl,d,Jt⟩:=hrel;have Ku:=Jt.size;have Jg:=Qb.out.trans (Jt.mono (kz7 Ny));by_cases Lx:Y<16
 .obtain ⟨b,off,rfl,Nz,q0,q1,q2⟩:=RdS.at_ (Rd.below Nh.out (Jg.mono hz)) (show Y<(slL ws).length by rw[eZ];exact Lx);rw[mR] at q0 q1 q2;have G:=hid (Ah ws Y);have Kh:=uA ws Y;obtain⟨-,-,R,Jq⟩:=gA (wd ws (112+Y));have D:slAt ws Y=dB (wd ws (112+Y)):=rfl;rw[<-D] at R Jq;obtain⟨s,Lo⟩:=xq (slAt ws Y);rw[Lo] at q0 q1 q2 G R Jq;obtain⟨m,Lm⟩:=xq (tB ws Y);rw[Lm] at d G Kh;obtain⟨sg,su,sa⟩:=s;dsimp only at q0 q1 q2 G R Jq;obtain⟨u,rfl⟩:=kq1 R;rw[kqj] at G;have hk16:(Y:Int)<16:=by omega
  have hk00:(0:Int)<=(Y:Int):=by omega
  clear D Lo Lm Jg R;cases su
  .have Lg:=hid (G.out.trans (by simp:m++(if false=true then [u] else [])=m));clear G;go_wp2;go_roundw
   case rel=>exact⟨Y+1,by omega,by go_num,by rw[Lg.out];exact d.alloc _,Jt.alloc Ku _⟩
   case measure=>simp[intOf];omega
  have Lg:=hid (show tB ws (Y+1)=m++[u] from G.out);clear G;go_wp2_with (at_builtin;refine kzd _ rfl _ _ 42 rfl W3.heap.size 3 i0 _ 1 8 underlying42 q.out.1 q.out.2.1 q.out.2.2.1 q.out.2.2.2 rfl (by decide) _ _ _ rfl ((d.alloc _).alloc _) ⟨_,0,none⟩ 1 1 [.int .i64 (u:Int)] rfl rfl (ld _ _ _ (kqm _ _)) (by simp[Value.oneCell']) (by unfold maxLen;omega) (by omega) (by simp;omega) ?_;intro v1 w2 y Z _;have Q:=aC (Jt.alloc Ku (.cells #[.int .i64 sg,.bool true,.int .i64 (u:Int)] 52)) (by simp;omega) (d.alloc _) Z);go_roundw
  case rel=>exact⟨Y+1,by omega,by go_num,by rw[Lg.out,kqu,kp];exact y,Q⟩
  case measure=>simp[intOf];omega
 obtain rfl:Y=16:=by omega
 have Lb:=Wk.start ws;have Kh:=uA ws 16;obtain⟨td0,Kq⟩:=xq (tB ws 16);rw[Kq] at Lb d Kh;have Nw:=hid Lb;have Lk:=hid d;have Mg:=hid (ai Ng.out Jt (kqd _));have V:ni (List.replicate ws.length false)=ws.length:=by simp[ni]
 have Qa:=hid V;have My:=hid Jg;clear Kq Lb d V Jg;go_wp2_with fail;go_loopg [12] 30000 (λg v w5=>∃(o:List Bool) (K:List Nat),g<=30000/\Hid (Wk ws o K)/\Hid (ni o*9+K.length<=g)/\w5.ownsRow wA.heap.size 4 1 (.slice (some ⟨wA.heap.size,0,none⟩) ws.length ws.length) ws.length (o.flatMap bE)/\w5.ownsRow W3.heap.size 3 1 v K.length (K.flatMap fP)/\W3.heap.size<=w5.heap.size/\Below wA.heap.size wA w5)
 case atStart=>exact⟨List.replicate ws.length false,td0,kqd _,Nw.out,by show _<=_;rw[Qa.out];omega,Mg.out,Lk.out,Ku,My.out⟩
 obtain⟨o,K,hg30,I,Jm,B,f,Mn,Q⟩:=hrel;have hz5:=Q.size;rcases List.eq_nil_or_concat K with rfl|⟨C,a,rfl⟩
 .have Kr:=I.out.end_;have HV:=hid (Ap Kj.out Nt.out Kr.1);have Mv:=hid I.out.seenL;have Jz:=hid B;rw[kxk] at f;obtain⟨A6,c6,rfl⟩:=aJ f;have Kg:=hid (Ji.out.trans (Q.mono Eq));clear Kr B f Jm I;go_wp2;go_ret2;exact⟨.inl ⟨HV.out,wA.heap.size,ws.length,rfl,by rw[<-Mv.out];exact ao Jz.out Eq⟩,Kg.out⟩
 simp only[List.concat_eq_append,kqu,List.length_singleton] at I Jm f;have N:=Jm.out;rw[kp] at f;obtain⟨gT,cT,rfl⟩:∃g c,u12=.slice (some ⟨g,0,none⟩) (C.length+1) c:=by obtain⟨g,c,h1,_⟩:=f.form (by omega);exact⟨g,c,h1⟩
 have hcT:=aZ f;have V:=cj fP 1 rN C;rw[kxo] at V;have ct:=(f.cellAt C.length (by omega)).trans (by rw[kxh (by omega),V,kvm];rfl:_=some (.int .i64 (a:Int)));have Kl:=FW f V;have hgT:=f.lt gT rfl;have hml:C.length<=30000:=by omega
 have hwl:IntKind.i64.wrap ((C.length:Int)+1-1)=(C.length:Int):=by rw[kqs _ (by omega)];omega
 have hd0:decide ((0:Int)<(C.length:Int)+1)=true:=by rw[kqn];omega
 have t0:(0:Int)<=(C.length:Int):=by omega
 have t1:(C.length:Int)<(C.length:Int)+1:=by omega
 have t2:(C.length:Int)<=(cT:Int):=by omega
 have Kg:=hid (Ji.out.trans (Q.mono Eq));have Nm:=hid f;have Kp:=hid Kl;clear N V Kl f;by_cases Ks:a<ws.length
 .have Md:=ai Kk.out Q (kqd _);have ca:=(Md.cellAt a (by omega)).trans (mB tl a (by omega));have Ma:=Mf.out a;rw[<-Ma] at ca;have Mu:decide ((ws.length:Int)<=(a:Int))=false:=by rw[kqh];omega
  have Mo:decide (ws.length<=a)=false:=by rw[kqh];omega
  have Nv:(0:Int)<=(a:Int):=by omega
  have Nd:(a:Int)<(ws.length:Int):=by omega
  clear Md Ma;by_cases Jb:tb ws a=0
  .have HV:=hid (E3 Kj.out (I.out.bad Jb));rw[Jb] at ca;clear Jb B;go_wp2;go_ret2;exact⟨.inr ⟨HV.out,rfl⟩,Kg.out⟩
  obtain⟨Je,Kf⟩:=iy Kj.out Jb;have Lr:=hid Je;have Ns:(tb ws a==0)=false:=by rw[kqi];exact Jb
  have Kh:=I.out.hlen;have cs:=(B.cellAt a (by omega)).trans (zK o a (by omega));have Nx:=hid Jb;obtain⟨t,ht⟩:∃t:Nat,(ar (wd ws a)).typ=(t:Int):=⟨wd ws a/512%128,rfl⟩;have Mi:t<8:=by have h7:=(bA _).1 (fG Je.2.2.2.1);have h5:=Je.2.2.2.2.1;omega
  have No:Hid (flds ws a=a8 (wd ws (96+2*t)) (wd ws (96+2*t+1))):=hid (by unfold flds;rw[ht];rfl);rw[ht] at Kf;rw[Kf] at ca Ns;have Nl:=hid Kf;have hwt:IntKind.i64.wrap ((t:Int)+1-1)=(t:Int):=by rw[kqs _ (by omega)];omega
  clear Je Kf Jb ht;cases D:o[a]?.getD false
  .rw[D] at cs;have fs:=B.frozenAt a;have Mr:o[a]? = some false:=by rw[kqk (by omega)] at D |-;rw[kq9] at D;rw[D]
   have Ml:=hid (I.out.new_ Nx.out);have Mx:=hid (wo Mr);have G:=hid (show (wr.setCell ⟨wA.heap.size,a,none⟩ (.bool true)).ownsRow wA.heap.size 4 1 (.slice (some ⟨wA.heap.size,0,none⟩) ws.length ws.length) ws.length ((o.set a true).flatMap bE) by
    rw[yT];exact (B.stored a (.bool true)).1)
   have Jv:=Q.setCell (p:=⟨wA.heap.size,a,none⟩) (kqd _) (.bool true);have Mq:=hid Jv;have Ju:(wr.setCell ⟨wA.heap.size,a,none⟩ (.bool true)).ownsRow W3.heap.size 3 1 (.slice (some ⟨gT,0,none⟩) C.length cT) C.length (C.flatMap fP):=Gu Kp.out (p:=⟨wA.heap.size,a,none⟩) (by show gT≠wA.heap.size;omega) (.bool true);have Ly:=hid Ju;have c6:=(ai Kk.out Jv (kqd _)).cellAt a (by omega) |>.trans (mB tl a (by omega));rw[<-Mf.out a,Nl.out] at c6;have Jd:=hid (λW (h:RdW W W.heap.size A ws)=>vN A ws c ws.length t W rfl (by omega) Nr Mi h HO.out);unfold Fh at Jd;rw[<-No.out] at Jd;clear B Nm;have Mp:=AU ws a;have Ko:Hid (∀j,j<(flds ws a).length->a+2+j<ws.length):=hid λj hj=>sP Lr.out hj;have Li:Hid (∀j,mi ws a (j+1)=mi ws a j++(if (flds ws a)[j]? = some 3/\wd ws (a+2+j)≠0 then [min (wd ws (a+2+j)) 2048] else [])):=hid λj=>Ca ws a j;have Mw:Hid (∀j,(mi ws a j).length<=j):=hid λj=>Dp ws a j;have Nc:=hid (HR.out.up (Ji.out.trans (Jv.mono Eq)) (Ji.out.trans (Jv.mono Eq)).size);obtain⟨F,hF⟩:=xq (flds ws a);rw[hF] at Jd Ml Mp Ko Li;have hw2:IntKind.i64.wrap ((a:Int)+2)=(a:Int)+2:=kqs _ (by omega);have N:=Jm.out;clear hF Jv Ju D Mr;go_wp2_with fail
   refine (Jd.out _ Nc.out).mono ?_;rintro e w7 ⟨⟨A7,c7,rfl,Ln⟩,Jo⟩;have Na:=hid Ln;have Np:=hid (Mq.out.trans (Jo.mono Mq.out.size));have Nu:=hid (ai G.out Jo (kqd _));have Mt:=hid (ai Ly.out Jo (kqd _));have Lw:W3.heap.size<=w7.heap.size:=by have:=Jo.size;rw[kxb] at this;omega
   clear Jo Ln cs ca c6 ct fs;go_wp2_with fail;go_loopw [12,110] (λv i w8=>∃j:Nat,j<=F.length/\i=.int .i64 j/\w8.ownsRow W3.heap.size 3 1 v (C++mi ws a j).length ((C++mi ws a j).flatMap fP)/\w8.ownsRow wA.heap.size 4 1 (.slice (some ⟨wA.heap.size,0,none⟩) ws.length ws.length) ws.length ((o.set a true).flatMap bE)/\(∃H,w8.ownsRow H 5 1 (.slice A7 F.length c7) F.length (F.flatMap bi))/\W3.heap.size<=w8.heap.size/\Below wA.heap.size wA w8) (λ_ i _=>F.length-(intOf i).toNat)
   case atStart=>exact⟨0,kqy _,rfl,by rw[show C++mi ws a 0=C from kzs C];exact Mt.out,Nu.out,⟨_,Na.out⟩,Lw,Np.out⟩
   obtain⟨j,hj,rfl,f,B,⟨H8,Jw⟩,Jp,S⟩:=hrel;have Ll:=S.size;have Lc:(C++mi ws a j).length<=C.length+j:=by rw[kqu];have:=Mw.out j;omega
   by_cases Ka:j<F.length
   .obtain ⟨bF,oF,rfl,hbF,y0⟩:=RdY.at_ (show RdY wr wr.heap.size A7 F from Rd.of_own Jw) Ka;have Mh:=Ko.out j Ka;have Lq:=HR.out.up (Ji.out.trans (S.mono Eq)) (Ji.out.trans (S.mono Eq)).size;obtain⟨bW,oW,rfl,hbW,x0⟩:=RdW.at_ Lq Mh;rw[<-cq] at x0;have Jr:=hid (Li.out j);rw[kqk Ka] at Jr;have Kz:=Nf.out (a+2+j);have Km:=hid (fE Jw f (by decide));obtain⟨kd,Ls⟩:=xq (F[j]);obtain⟨x,hx⟩:=xq (wd ws (a+2+j));obtain⟨m,Kv⟩:=xq (C++mi ws a j);rw[Ls] at y0 Jr;rw[hx] at x0 Jr Kz;rw[Kv] at f Lc;have Jj:Hid (C++mi ws a (j+1)=m++(if some kd=some 3/\x≠0 then [min x 2048] else [])):=hid (by rw[Jr.out,<-kxr,Kv]);have hji:(j:Int)<(F.length:Int):=by omega
    have hj0:(0:Int)<=(j:Int):=by omega
    have hw3:IntKind.i64.wrap ((a:Int)+2+(j:Int))=(a:Int)+2+(j:Int):=kqs _ (by omega);have i0':(0:Int)<=(a:Int)+2+(j:Int):=by omega
    have i1':(a:Int)+2+(j:Int)<(ws.length:Int):=by omega
    have it':((a:Int)+2+(j:Int)).toNat=a+2+j:=by omega
    have hmm:m.length<=40000:=by omega
    have r:=hid f;have M:=hid B;have Jf:=hid Jw;have HXL:=hid Kz;clear Jr Ls hx Kv Lq B Jw Mh Kz;by_cases X:kd=3
    .have e3:((kd:Int) != 3)=false:=by rw[kqq];omega
     have e3n:(kd != 3)=false:=by rw[kqq];exact X
     by_cases Jk:x=0
     .have e0:((x:Int)==0)=true:=by rw[kqw];omega
      have e0n:(x==0)=true:=by rw[kqw];exact Jk
      have HY:=hid (show C++mi ws a (j+1)=m by rw[Jj.out,if_neg (λh=>h.2 Jk),kzs]);clear X Jk Jj f;go_wp2;go_roundw
      case rel=>exact⟨j+1,by omega,by go_num,by rw[HY.out];exact r.out,M.out,⟨_,Jf.out⟩,Jp,S⟩
      case measure=>simp[intOf];omega
     have e0:((x:Int)==0)=false:=by rw[kqi];omega
     have e0n:(x==0)=false:=by rw[kqi];exact Jk
     have HY:=hid (show C++mi ws a (j+1)=m++[min x 2048] by rw[Jj.out,if_pos ⟨by rw[X],Jk⟩]);clear X Jk Jj;have Lf:=λ(z:Int) (h0:0<=z) (h1:z<=2048)=>show IntKind.i64.wrap z=z from kqs _ (by omega);have Ki:min x 2048=x/\x<=2048\/min x 2048=2048/\2048<x:=by omega
     rcases Ki with⟨N,Ni⟩|⟨N,Ni⟩
     .rw[N] at HY;have hwx:=Lf (x:Int) (by omega) (by omega);have hmin:(if (x:Int)<2048 then (x:Int) else 2048)=(x:Int):=by split<;>omega
      clear Lf N;go_wp2_with (at_builtin;refine kzd _ rfl _ _ 42 rfl W3.heap.size 3 i0 _ 1 8 underlying42 q.out.1 q.out.2.1 q.out.2.2.1 q.out.2.2.2 rfl (by decide) _ _ _ rfl (r.out.alloc _) ⟨_,0,none⟩ 1 1 [.int .i64 (x:Int)] rfl rfl (cC _ _ _) (by simp[Value.oneCell']) (by unfold maxLen;omega) (by omega) (by simp;omega) ?_;intro v1 w9 y Z _;have Js:=hid y;have O:=hid Z;clear y Z);go_roundw
      case rel =>
       have Kw:=O.out.size;rw[kqm] at Kw;refine⟨j+1,by omega,by go_num,by rw[HY.out,kqu,kp];exact Js.out,(M.out.alloc _).kept O.out (.inr ?_),⟨_,(Jf.out.alloc _).kept O.out Km.out⟩,by omega,(S.alloc Ll _).grown O.out (by rw[kqm];omega) (λk hk=>by have:=(r.out.lt k hk).1;omega)⟩;intro h;have:=(r.out.lt wA.heap.size h.symm).1;omega
      case measure=>simp[intOf];omega
     rw[N] at HY;have hxi1:(2048:Int)<(x:Int):=by omega
     have hxi2:¬ (x:Int)<2048:=by omega
     have hxi3:¬ (x:Int)<=2048:=by omega
     have hxi4:¬ x<2048:=by omega
     have hxi5:¬ x<=2048:=by omega
     clear Lf N;go_wp2_with (at_builtin;refine kzd _ rfl _ _ 42 rfl W3.heap.size 3 i0 _ 1 8 underlying42 q.out.1 q.out.2.1 q.out.2.2.1 q.out.2.2.2 rfl (by decide) _ _ _ rfl (r.out.alloc _) ⟨_,0,none⟩ 1 1 [.int .i64 2048] rfl rfl (cC _ _ _) (by simp[Value.oneCell']) (by unfold maxLen;omega) (by omega) (by simp;omega) ?_;intro v1 w9 y Z _;have Js:=hid y;have O:=hid Z;clear y Z);go_roundw
     case rel =>
      have Kw:=O.out.size;rw[kqm] at Kw;refine⟨j+1,by omega,by go_num,by rw[HY.out,kqu,kp];exact Js.out,(M.out.alloc _).kept O.out (.inr ?_),⟨_,(Jf.out.alloc _).kept O.out Km.out⟩,by omega,(S.alloc Ll _).grown O.out (by rw[kqm];omega) (λk hk=>by have:=(r.out.lt k hk).1;omega)⟩;intro h;have:=(r.out.lt wA.heap.size h.symm).1;omega
     case measure=>simp[intOf];omega
    have e3:((kd:Int) != 3)=true:=by rw[kqv];omega
    have e3n:(kd != 3)=true:=by rw[kqv];exact X
    have HY:=hid (show C++mi ws a (j+1)=m by rw[Jj.out,if_neg (λh=>X (Option.some.inj h.1)),kzs]);clear X Jj f;go_wp2;go_roundw
    case rel=>exact⟨j+1,by omega,by go_num,by rw[HY.out];exact r.out,M.out,⟨_,Jf.out⟩,Jp,S⟩
    case measure=>simp[intOf];omega
   obtain rfl:j=F.length:=by omega
   have r:=hid f;have M:=hid B;have hfs:=Mx.out;clear f B Jw;go_wp2;go_roundg (gk-1)
   case rel=>exact⟨o.set a true,C++mi ws a F.length,by omega,Ml.out,by show _<=_;omega,M.out,r.out,Jp,S⟩
   case measure=>omega
  rw[D] at cs;have Mz:=hid (I.out.old (show o[a]? = some true by
   rw[kqk (by omega)] at D |-;rw[kq9] at D;rw[D]))
  have Jz:=hid B;have N:=Jm.out;clear B D I;go_wp2;go_roundg (gk-1)
  case rel=>exact⟨o,C,by omega,Mz.out,by show _<=_;omega,Jz.out,Kp.out,Mn,Q⟩
  case measure=>omega
 have Mu:decide ((ws.length:Int)<=(a:Int))=true:=by rw[kqn];omega
 have Mo:decide (ws.length<=a)=true:=by rw[kqn];omega
 have HV:=hid (E3 Kj.out (I.out.bad (by
  by_cases h:tb ws a=0
  .exact h
  exact absurd (rZ h) Ks)))
 clear B Ks;go_wp2;go_ret2;exact⟨.inr ⟨HV.out,rfl⟩,Kg.out⟩
def rB (S:List Bool) (k:Nat):List Int:=((List.range k).filter λa=>S[a]?.getD false).map λa:Nat=>(a:Int)
theorem AK(ws:List Nat):(seenL ws).length=ws.length:=by simp[seenL]
theorem kV(h:a<ws.length):(seenL ws)[a]?.getD false=true↔Rch ws a:=by unfold seenL;rw[kxl,kvi h];simp
theorem dW(h:aA ws=0):dX ws=rB (seenL ws) ws.length:=by
 unfold dX rB;rw[if_pos h];congr 1;refine List.filter_congr λa d=>?_;have b:=kV (ws:=ws) (kzh.1 d);cases c:(seenL ws)[a]?.getD false
 .rw[c] at b
  simpa using b
 rw[c] at b
 simpa using b
theorem uD(h:aA ws≠0):dX ws=[]:=by unfold dX;rw[if_neg h]
theorem wB(h:ah ws≠0):aA ws=ah ws:=by unfold aA;rw[if_neg h]
end Go.Proofs.YtpcajamacpbjcaaGreat
