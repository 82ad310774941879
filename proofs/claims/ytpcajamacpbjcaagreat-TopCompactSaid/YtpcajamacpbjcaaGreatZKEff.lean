/- Texts laid together: EffP EffQ Eff SumP Sum Bnd. -/
import Derived.Test.YtpcajamacpbjcaaGreatZKPlain
set_option maxHeartbeats 16000000
set_option maxRecDepth 100000
set_option linter.all false
namespace Go.Proofs.YtpcajamacpbjcaaGreat
open Lib (hid)
variable {ad:List Int}{H k n x:Nat}{w wr:World}
open Go.Proofs.Tryz
def aI (ad:List Int) (x:Int):Nat->Bool
 | 0=>false
 | i+1=>aI ad x i||((ad[i]?.getD 0)/8==x/8)
def cc (ad:List Int) (x:Int):Nat->Bool
 | 0=>false
 | i+1=>cc ad x i||((ad[i]?.getD 0)==x)
def iq (ad:List Int):Nat->Bool
 | 0=>true
 | k+1=>iq ad k&&(decide (0<=ad[k]?.getD 0)&&decide (ad[k]?.getD 0<2048) && !cc ad (ad[k]?.getD 0) k)
def fe (ad:List Int):Nat->Nat
 | 0=>0
 | k+1=>fe ad k+if aI ad (ad[k]?.getD 0) k then 0 else 1
theorem li(ad:List Int)(k:Nat):fe ad k<=k:=by
 induction k with
 | zero=>simp[fe]
 | succ k ih=>simp only[fe];split<;>omega
theorem zn(h:iq ad n=true)(hk:k<=n):iq ad k=true:=by
 induction n with
 | zero =>
  have:k=0:=by omega
  subst this;exact h
 | succ n ih =>
  rcases kq7 k (n+1) with a|a
  .simp only[iq,kqu] at h;exact ih h.1 (by omega)
  have:k=n+1:=by omega
  subst this;exact h
theorem uF(h:iq ad k=false)(hk:k<=n):iq ad n=false:=by
 cases a:iq ad n with
 | false=>rfl
 | true=>rw[zn a hk] at h;cases h
def gV (ad:List Int):Int:=if ad.length=0 then 0 else 3*ad.length+2
def fo (ad:List Int):Int:=if ad.length=0 then 0 else (2*ad.length+7)/8+fe ad ad.length+2
def gG (ad:List Int):Int:=if ad.length=0 then 0 else 4
def f8 (ad:List Int):Int:=if 32<ad.length then 4 else if iq ad ad.length then 0 else 2
def ofS (ad:List Int):Int:=if f8 ad=0 then gV ad else 0
def ofF (ad:List Int):Int:=if f8 ad=0 then fo ad else 0
def ofN (ad:List Int):Int:=if f8 ad=0 then gG ad else 0
theorem yJ(h:32<ad.length):f8 ad=4:=by simp[f8,h]
theorem D7(h:ad.length<=32)(hk:iq ad k=false)(hn:k<=ad.length):f8 ad=2:=by
 have:¬ 32<ad.length:=by omega
 simp[f8,this,uF hk hn]
theorem vV(h:ad.length<=32)(hk:iq ad ad.length=true):f8 ad=0:=by
 have:¬ 32<ad.length:=by omega
 simp[f8,this,hk]
theorem sj(h:¬ (0<=ad[k]?.getD 0/\ad[k]?.getD 0<2048)):iq ad (k+1)=false:=by
 simp only[iq,kkk,kqh];by_cases a:0<=ad[k]?.getD 0
 .exact .inr (.inl (.inr (λb=>h ⟨a,b⟩)))
 exact .inr (.inl (.inl a))
theorem mx(h:iq ad k=true)(h0:0<=ad[k]?.getD 0)(h1:ad[k]?.getD 0<2048)(h2:cc ad (ad[k]?.getD 0) k=false):iq ad (k+1)=true:=by simp[iq,h,h0,h1,h2]
theorem ot(ad:List Int)(x y:Int)(h:x/8=y/8)(k:Nat):aI ad x k=aI ad y k:=by
 induction k with
 | zero=>rfl
 | succ k ih=>simp only[aI,ih,h]
open Go.RowKit
def ke (s f n:Int):Value:=.agg #[.int .i64 s,.int .i64 f,.int .i64 n]
def jw (ad:List Int):Value:=.tuple #[ke (ofS ad) (ofF ad) (ofN ad),.int .i64 (f8 ad)]
theorem qk{e:Int}(h:f8 ad=e)(h0:e≠0):jw ad=.tuple #[ke 0 0 0,.int .i64 e]:=by simp[jw,ofS,ofF,ofN,h,h0]
theorem Bz(h:f8 ad=0):jw ad=.tuple #[ke (gV ad) (fo ad) (gG ad),.int .i64 0]:=by simp[jw,ofS,ofF,ofN,h]
def jQ:Array Value:=Array.replicate 2048 (.bool false)
def nM:Array Value:=Array.replicate 256 (.bool false)
theorem GF(w:World):(zeroValue 155).run prog w=.ok (.agg jQ) w:=by kernel_rfl
theorem Jv(w:World):(zeroValue 156).run prog w=.ok (.agg nM) w:=by kernel_rfl
theorem Jm(w:World):(w.alloc (.cells jQ 155)).rowIs w.heap.size 155 2048 (λ_=>.bool false):=
 ⟨jQ,heap_alloc_new w _,by simp[jQ],λi a=>by simp[jQ,a]⟩
theorem row256(w:World):(w.alloc (.cells nM 156)).rowIs w.heap.size 156 256 (λ_=>.bool false):=
 ⟨nM,heap_alloc_new w _,by simp[nM],λi a=>by simp[nM,a]⟩
theorem IZ(x gl gs:Nat)(w:World)(hx:x<2048)(hc:w.cell? ⟨gl,x/8,none⟩=some (.bool true)):
 Calls prog 88 #[.int .i64 (x:Int),.pointer (some ⟨gl,0,none⟩),.pointer (some ⟨gs,0,none⟩)] w λe w'=>e=.returned (.tuple #[])/\w=w':=by go_enter func88,ntmps88;go_wp2;go_end0;exact⟨rfl,rfl⟩
theorem EF(x gl gs n:Nat)(w:World)(hx:x<2048)(hn:n<=32)(hg:gl≠gs)(hc:w.cell? ⟨gl,x/8,none⟩=some (.bool false))(hf:w.frozen? ⟨gl,x/8,none⟩=false)(hs:w.cell? ⟨gs,0,none⟩=some (.int .i64 (n:Int)))(hsf:w.frozen? ⟨gs,0,none⟩=false):
 Calls prog 88 #[.int .i64 (x:Int),.pointer (some ⟨gl,0,none⟩),.pointer (some ⟨gs,0,none⟩)] w λe w'=>e=.returned (.tuple #[]) /\
  (w.setCell ⟨gl,x/8,none⟩ (.bool true)).setCell ⟨gs,0,none⟩ (.int .i64 ((n:Int)+1))=w':=by have hg':gs≠gl:=λh=>hg h.symm;go_enter func88,ntmps88;go_wp2;go_end0;exact⟨rfl,rfl⟩
structure OfRel (H:Nat) (ad:List Int) (k:Nat) (w wr:World):Prop where
 below:Below H w wr
 res:wr.rowIs H 61 3 (λ_=>.int .i64 0)
 words:wr.rowIs (H+1) 155 2048 (λi=>.bool (cc ad (i:Int) k))
 lines:wr.rowIs (H+1+1) 156 256 (λi=>.bool (aI ad (8*(i:Int)) k))
 sev:wr.rowIs (H+1+1+1) 3 1 (λ_=>.int .i64 (fe ad k:Nat))
theorem OfRel.start(w:World)(ad:List Int):OfRel w.heap.size ad 0 w ((((w.alloc (.cells #[.int .i64 0,.int .i64 0,.int .i64 0] 61)).alloc (.cells jQ 155)).alloc (.cells nM 156)).alloc (.cells #[.int .i64 0] 3)):=by
 have d:=Jm (w.alloc (.cells #[.int .i64 0,.int .i64 0,.int .i64 0] 61));have c:=row256 ((w.alloc (.cells #[.int .i64 0,.int .i64 0,.int .i64 0] 61)).alloc (.cells jQ 155));simp only[kqm] at d c;refine⟨?_,?_,?_,?_,?_⟩
 . (repeat' (first | with_reducible assumption | with_reducible exact kqk _ _ | (with_reducible refine bp ?_ _) | (with_reducible refine kji ?_) | (with_reducible refine kjj ?_ ?_ _) | (with_reducible refine kq9 ?_ ?_ _)))<;>(first | exact kqa _ | exact kz8 _ | omega | (dsimp only;omega) | ((repeat (first | (with_reducible refine aS ?_) | (with_reducible refine fF ?_) | (with_reducible refine dr ?_)));first | exact kqa _ | omega))
 .exact ((World.rowIs.alloc (⟨#[.int .i64 0,.int .i64 0,.int .i64 0],heap_alloc_new w _,rfl,λi a=>by
   match i,a with
   | 0,_=>rfl
   | 1,_=>rfl
   | 2,_=>rfl⟩) _).alloc _).alloc _
 .exact (d.alloc _).alloc _
 .exact c.alloc _
 have b:=heap_alloc_new (((w.alloc (.cells #[.int .i64 0,.int .i64 0,.int .i64 0] 61)).alloc (.cells jQ 155)).alloc (.cells nM 156)) (.cells #[.int .i64 0] 3);simp only[kqm] at b;exact⟨#[.int .i64 0],b,rfl,λi a=>by
  match i,a with
  | 0,_=>rfl⟩
theorem OfRel.wstep(h:OfRel H ad k w wr)(hx:ad[k]?.getD 0=(x:Int)):
 (wr.setCell ⟨H+1,x,none⟩ (.bool true)).rowIs (H+1) 155 2048 (λi=>.bool (cc ad (i:Int) (k+1))):=
 (h.words.set x (.bool true)).congr λi _=>by
  simp only[cc,hx]
  by_cases e:i=x
  .subst e;simp
  .have:((x:Int)==(i:Int))=false:=by rw[kqi];omega
   simp[e,this]
theorem OfRel.step_new(h:OfRel H ad k w wr)(hx:ad[k]?.getD 0=(x:Int))(hl:aI ad (8*((x/8:Nat):Int)) k=false)(o:Obj):
 OfRel H ad (k+1) w ((((wr.setCell ⟨H+1,x,none⟩ (.bool true)).setCell ⟨H+1+1,x/8,none⟩ (.bool true)).setCell ⟨H+1+1+1,0,none⟩ (.int .i64 ((fe ad k:Nat)+1))).alloc o):=by
 have hz3:=h.sev.lt;have hB:=h.below;refine⟨?_,?_,?_,?_,?_⟩
 . (repeat' (first | with_reducible assumption | with_reducible exact kqk _ _ | (with_reducible refine bp ?_ _) | (with_reducible refine kji ?_) | (with_reducible refine kjj ?_ ?_ _) | (with_reducible refine kq9 ?_ ?_ _)))<;>(first | exact kqa _ | exact kz8 _ | omega | (dsimp only;omega) | ((repeat (first | (with_reducible refine aS ?_) | (with_reducible refine fF ?_) | (with_reducible refine dr ?_)));first | exact kqa _ | omega))
 .have b:=h.res;(repeat' (first | with_reducible exact b | (with_reducible refine World.rowIs.alloc ?_ _) | (with_reducible refine World.rowIs.setOther ?_ ?_ _) | (with_reducible refine i9 ?_ _)))<;>(dsimp only;omega)
 .have b:=h.wstep hx;(repeat' (first | with_reducible exact b | (with_reducible refine World.rowIs.alloc ?_ _) | (with_reducible refine World.rowIs.setOther ?_ ?_ _) | (with_reducible refine i9 ?_ _)))<;>(dsimp only;omega)
 .refine (World.rowIs.setOther (World.rowIs.congr ((World.rowIs.setOther h.lines (a:=⟨H+1,x,none⟩) (by dsimp only;omega) _).set (x/8) (.bool true)) ?_) (by dsimp only;omega) _).alloc _;intro i c;simp only[aI,hx];by_cases e:i=x/8
  .subst e;have:((x:Int)/8==8*((x/8:Nat):Int)/8)=true:=by rw[kqx];omega
   rw[this,if_pos rfl,kvb]
  have:((x:Int)/8==8*(i:Int)/8)=false:=by rw[kqi];omega
  rw[this,if_neg e,kkm]
 refine (World.rowIs.congr ((World.rowIs.setOther (World.rowIs.setOther h.sev (a:=⟨H+1,x,none⟩) (by dsimp only;omega) _) (a:=⟨H+1+1,x/8,none⟩) (by dsimp only;omega) _).set 0 _) ?_).alloc _;intro i c;have e:i=0:=by omega
 subst e;have:aI ad (x:Int) k=false:=by rw[ot ad (x:Int) (8*((x/8:Nat):Int)) (by omega)];exact hl
 simp[fe,hx,this]
theorem OfRel.step_old(h:OfRel H ad k w wr)(hx:ad[k]?.getD 0=(x:Int))(hl:aI ad (8*((x/8:Nat):Int)) k=true)(o:Obj):
 OfRel H ad (k+1) w ((wr.setCell ⟨H+1,x,none⟩ (.bool true)).alloc o):=by
 have hz3:=h.sev.lt;have hB:=h.below;refine⟨?_,?_,?_,?_,?_⟩
 . (repeat' (first | with_reducible assumption | with_reducible exact kqk _ _ | (with_reducible refine bp ?_ _) | (with_reducible refine kji ?_) | (with_reducible refine kjj ?_ ?_ _) | (with_reducible refine kq9 ?_ ?_ _)))<;>(first | exact kqa _ | exact kz8 _ | omega | (dsimp only;omega) | ((repeat (first | (with_reducible refine aS ?_) | (with_reducible refine fF ?_) | (with_reducible refine dr ?_)));first | exact kqa _ | omega))
 .have b:=h.res;(repeat' (first | with_reducible exact b | (with_reducible refine World.rowIs.alloc ?_ _) | (with_reducible refine World.rowIs.setOther ?_ ?_ _) | (with_reducible refine i9 ?_ _)))<;>(dsimp only;omega)
 .have b:=h.wstep hx;(repeat' (first | with_reducible exact b | (with_reducible refine World.rowIs.alloc ?_ _) | (with_reducible refine World.rowIs.setOther ?_ ?_ _) | (with_reducible refine i9 ?_ _)))<;>(dsimp only;omega)
 .refine (World.rowIs.congr (World.rowIs.setOther h.lines (a:=⟨H+1,x,none⟩) (by dsimp only;omega) _) ?_).alloc _;intro i c;simp only[aI,hx];by_cases e:i=x/8
  .rw[e,hl,kkw]
  have:((x:Int)/8==8*(i:Int)/8)=false:=by rw[kqi];omega
  rw[this,kkm]
 refine (World.rowIs.congr (World.rowIs.setOther h.sev (a:=⟨H+1,x,none⟩) (by dsimp only;omega) _) ?_).alloc _;intro i c;have e:i=0:=by omega
 subst e;have:aI ad (x:Int) k=true:=by rw[ot ad (x:Int) (8*((x/8:Nat):Int)) (by omega)];exact hl
 simp[fe,hx,this]
theorem of_c(A:Option Addr)(l:List En)(c:Nat)(w:World)(hm:l.length<=9223372036854775807)(hr:RdE w w.heap.size A l):
 Calls prog 44 #[.slice A l.length c] w λe w'=>e=.returned (jw (av l))/\Below w.heap.size w w':=by
 have HR:=hid hr;clear hr;by_cases h:32<l.length
 .have f:=hid (qk (yJ (ad:=av l) (by rw[aU];exact h)) (by omega));go_enter func44,ntmps44;go_wp2_with fail;exact kqq (v:=.tuple #[ke 0 0 0,.int .i64 4]) (by simp[results,results44,go_sem,ke]) rfl ⟨by rw[f.out],(kqk _ _).alloc (kqa _) _⟩
 have T:l.length<=32:=by omega
 clear h;have N:=GF;have P:=Jv;go_enter func44,ntmps44;go_wp2_with fail;clear N P;go_loopw [19] (λi wr=>∃k:Nat,k<=l.length/\i=.int .i64 k/\iq (av l) k=true/\OfRel w.heap.size (av l) k w wr) (λi _=>l.length-(intOf i).toNat)
 case atStart =>
  exact⟨0,kqz _,rfl,rfl,OfRel.start w _⟩
 obtain⟨k,hk,rfl,R,hR⟩:=hrel;have J:=hid R;clear R;have d:=hid hR;clear hR;have y:=d.out.res.lt;have N:=d.out.words.lt;have P:=d.out.lines.lt;have hz3:=d.out.sev.lt;have s:=d.out.res.cell (i:=0) (by omega);have q:=d.out.res.cell (i:=1) (by omega);have C:=d.out.res.cell (i:=2) (by omega);have hf0:=d.out.res.frozen 0;have hf1:=d.out.res.frozen 1;have hf2:=d.out.res.frozen 2;by_cases F:k<l.length
 .obtain ⟨b,Q,rfl,hb,h2,V⟩:=HR.out.at_ F;have D:=hid (d7 l k F);replace h2:=(d.out.below.cell (p:=⟨b,Q+k*2,none⟩) hb).trans h2;replace V:=(d.out.below.cell (p:=⟨b,Q+k*2+1,none⟩) hb).trans V;generalize hx:l[k].a=x at *;generalize hv:l[k].v=v at *;have HX:=hid hx;have HV:=hid hv;clear hx hv;have hz4:b<wr.heap.size:=by omega
  have f:∀w':World,iq (av l) (k+1)=false->Below w.heap.size w w' ->
   Ending.returned (.tuple #[ke 0 0 0,.int .i64 2])=.returned (jw (av l))/\Below w.heap.size w w':=
   λ_ h1 V=>⟨by rw[qk (D7 (by rw[aU];exact T) h1 (by rw[aU];exact F)) (by omega)],V⟩
  have B:=hid f;clear f;have hB:=d.out.below;by_cases Eq:x<0
  .have t:=hid (sj (ad:=av l) (k:=k) (by rw[D.out];omega));go_wp2_with fail;refine kqq (v:=.tuple #[ke 0 0 0,.int .i64 2]) (by simp[results,results44,go_sem,ke,s,q,C,y]) rfl (B.out _ t.out ?_);(repeat' (first | with_reducible assumption | with_reducible exact kqk _ _ | (with_reducible refine bp ?_ _) | (with_reducible refine kji ?_) | (with_reducible refine kjj ?_ ?_ _) | (with_reducible refine kq9 ?_ ?_ _)))<;>(first | exact kqa _ | exact kz8 _ | omega | (dsimp only;omega) | ((repeat (first | (with_reducible refine aS ?_) | (with_reducible refine fF ?_) | (with_reducible refine dr ?_)));first | exact kqa _ | omega))
  obtain⟨x,rfl⟩:=kq1 (show 0<=x by omega);clear Eq;by_cases Z:2048<=x
  .have t:=hid (sj (ad:=av l) (k:=k) (by rw[D.out];omega));go_wp2_with fail;refine kqq (v:=.tuple #[ke 0 0 0,.int .i64 2]) (by simp[results,results44,go_sem,ke,s,q,C,y]) rfl (B.out _ t.out ?_);(repeat' (first | with_reducible assumption | with_reducible exact kqk _ _ | (with_reducible refine bp ?_ _) | (with_reducible refine kji ?_) | (with_reducible refine kjj ?_ ?_ _) | (with_reducible refine kq9 ?_ ?_ _)))<;>(first | exact kqa _ | exact kz8 _ | omega | (dsimp only;omega) | ((repeat (first | (with_reducible refine aS ?_) | (with_reducible refine fF ?_) | (with_reducible refine dr ?_)));first | exact kqa _ | omega))
  have K:x<2048:=by omega
  clear Z;have M:=d.out.words.cell (i:=x) K;have hwf:=d.out.words.frozen x;have L:=d.out.lines.cell (i:=x/8) (by omega);have hlf:=d.out.lines.frozen (x/8);have U:=d.out.sev.cell (i:=0) (by omega);have Y:=d.out.sev.frozen 0;cases j:cc (av l) x k
  .have O:=hid j;rw[j] at M;clear j;cases o:aI (av l) (8*((x/8:Nat):Int)) k
   .rw[o] at L;have I:=hid o;clear o;have G:=li (av l) k;go_wp2_with fail;refine (EF x (w.heap.size+1+1) (w.heap.size+1+1+1) (fe (av l) k) _ K (by omega) (by omega) (by go_simp) (by go_simp) (by go_simp) (by go_simp)).mono ?_;rintro e w1 ⟨rfl,rfl⟩;go_wp2;go_roundw
    case rel =>
     exact⟨k+1,by omega,by go_num,mx J.out (by rw[D.out];omega) (by rw[D.out];omega) (by rw[D.out];exact O.out),d.out.step_new D.out I.out _⟩
    case measure=>simp[intOf];omega
   rw[o] at L;have I:=hid o;clear o;go_wp2_with fail;refine (IZ x (w.heap.size+1+1) (w.heap.size+1+1+1) _ K (by go_simp)).mono ?_;rintro e w1 ⟨rfl,rfl⟩;go_wp2;go_roundw
   case rel =>
    exact⟨k+1,by omega,by go_num,mx J.out (by rw[D.out];omega) (by rw[D.out];omega) (by rw[D.out];exact O.out),d.out.step_old D.out I.out _⟩
   case measure=>simp[intOf];omega
  rw[j] at M;have t:=hid (show iq (av l) (k+1)=false by simp[iq,D.out,j]);clear j;go_wp2_with fail;refine kqq (v:=.tuple #[ke 0 0 0,.int .i64 2]) (by simp[results,results44,go_sem,ke,s,q,C,y]) rfl (B.out _ t.out ?_);(repeat' (first | with_reducible assumption | with_reducible exact kqk _ _ | (with_reducible refine bp ?_ _) | (with_reducible refine kji ?_) | (with_reducible refine kjj ?_ ?_ _) | (with_reducible refine kq9 ?_ ?_ _)))<;>(first | exact kqa _ | exact kz8 _ | omega | (dsimp only;omega) | ((repeat (first | (with_reducible refine aS ?_) | (with_reducible refine fF ?_) | (with_reducible refine dr ?_)));first | exact kqa _ | omega))
 have:k=l.length:=by omega
 subst this;have U := d.out.sev.cell (i := 0) (by omega);have Y := d.out.sev.frozen 0;have G := li (av l) l.length;have W:Hid (jw (av l)=.tuple #[ke (gV (av l)) (fo (av l)) (gG (av l)),.int .i64 0]):=
  Bz (vV (by rw[aU];exact T) (by rw[aU];exact J.out))
 have hB:=d.out.below;have H:∀w':World,Below w.heap.size w w'->Ending.returned (.tuple #[ke (gV (av l)) (fo (av l)) (gG (av l)),.int .i64 0])=.returned (jw (av l))/\Below w.heap.size w w':=λ_ h=>⟨by rw[W.out],h⟩;have g:=hid H;clear H F;by_cases E:l.length=0
 .obtain ⟨n,X⟩:∃n,n=l.length:=⟨_,rfl⟩;have S:fe (av l) l.length=0:=by rw[E];rfl
  have u:gV (av l)=0:=by simp[gV,aU,E]
  have z:fo (av l)=0:=by simp[fo,aU,E]
  have r:gG (av l)=0:=by simp[gG,aU,E]
  rw[u,z,r] at g;rw[S] at U;clear u z r S W G;rw[<-X] at E;have H0:=hid E;rw[<-X,E];clear E X;go_wp2_with fail;refine kqq (v:=.tuple #[ke 0 0 0,.int .i64 0]) (by simp[results,results44,go_sem,ke,s,q,C,y]) rfl (g.out _ ?_);(repeat' (first | with_reducible assumption | with_reducible exact kqk _ _ | (with_reducible refine bp ?_ _) | (with_reducible refine kji ?_) | (with_reducible refine kjj ?_ ?_ _) | (with_reducible refine kq9 ?_ ?_ _)))<;>(first | exact kqa _ | exact kz8 _ | omega | (dsimp only;omega) | ((repeat (first | (with_reducible refine aS ?_) | (with_reducible refine fF ?_) | (with_reducible refine dr ?_)));first | exact kqa _ | omega))
 have u:gV (av l)=3*l.length+2:=by simp[gV,aU,E]
 have z:fo (av l)=(2*l.length+8-1)/8+fe (av l) l.length+2:=by rw[show (2*(l.length:Int)+8-1)=2*l.length+7 from by omega];simp[fo,aU,E]
 have r:gG (av l)=4:=by simp[gG,aU,E]
 rw[u,z,r] at g;clear u z r W;generalize fe (av l) l.length=m at *;have hne:(((3*(l.length:Int)+2==2))=false):=by rw[kqi];omega
 go_wp2_with fail;refine kqq (v:=.tuple #[ke (3*l.length+2) ((2*l.length+8-1)/8+m+2) 4,.int .i64 0]) (by simp[results,results44,go_sem,ke,s,q,C,y]) rfl (g.out _ ?_);(repeat' (first | with_reducible assumption | with_reducible exact kqk _ _ | (with_reducible refine bp ?_ _) | (with_reducible refine kji ?_) | (with_reducible refine kjj ?_ ?_ _) | (with_reducible refine kq9 ?_ ?_ _)))<;>(first | exact kqa _ | exact kz8 _ | omega | (dsimp only;omega) | ((repeat (first | (with_reducible refine aS ?_) | (with_reducible refine fF ?_) | (with_reducible refine dr ?_)));first | exact kqa _ | omega))
def dB:List (List Int)->Int
 | []=>0
 | c::cs=>if f8 c=0 then dB cs else f8 c
def tot (f:List Int->Int):List (List Int)->Int
 | []=>0
 | c::cs=>f c+tot f cs
theorem lO(a b:List (List Int)):dB (a++b)=if dB a=0 then dB b else dB a:=by
 induction a with
 | nil=>simp[dB]
 | cons c a ih =>
  simp only[kzn,dB];by_cases h:f8 c=0
  .simp[h,ih]
  simp[h]
theorem yH(f:List Int->Int)(a b:List (List Int)):tot f (a++b)=tot f a+tot f b:=by
 induction a with
 | nil=>simp[tot]
 | cons c a ih=>simp only[kzn,tot,ih];omega
theorem pw(f:List Int->Int)(m:Int)(hf:∀c,0<=f c/\f c<=m)(a:List (List Int)):0<=tot f a/\tot f a<=m*a.length:=by
 induction a with
 | nil=>simp[tot]
 | cons c a ih =>
  have:=hf c;simp only[tot,kq2];have e:m*((a.length+1:Nat):Int)=m*a.length+m:=by rw[kjn,Int.mul_add];simp
  rw[e];omega
theorem tH(h:f8 ad=0):ad.length<=32/\iq ad ad.length=true:=by
 unfold f8 at h;split at h
 .simp at h
 split at h
 .exact ⟨by omega,by assumption⟩
 simp at h
theorem wx(ad:List Int):0<=ofS ad/\ofS ad<=98:=by
 unfold ofS;split
 .have:=(tH ‹_›).1;unfold gV;split<;>omega
 omega
theorem vA(ad:List Int):0<=ofF ad/\ofF ad<=98:=by
 unfold ofF;split
 .have:=(tH ‹_›).1;have:=li ad ad.length;unfold fo;split<;>omega
 omega
theorem wo(ad:List Int):0<=ofN ad/\ofN ad<=98:=by
 unfold ofN;split
 .unfold gG;split<;>omega
 omega
theorem oL{cs:List (List Int)}(hk:k<cs.length)(h:dB (cs.take k)=0):dB (cs.take (k+1))=f8 cs[k]:=by
 rw[kqp hk,lO,if_pos h];simp only[dB];split
 .simp[*]
 rfl
theorem ks(f:List Int->Int){cs:List (List Int)}(hk:k<cs.length):tot f (cs.take (k+1))=tot f (cs.take k)+f cs[k]:=by rw[kqp hk,yH];simp[tot]
theorem zi{cs:List (List Int)}(h:dB (cs.take k)≠0):dB cs=dB (cs.take k):=by have:=lO (cs.take k) (cs.drop k);rw[kxb,if_neg h] at this;exact this
def smS (cs:List (List Int)):Int:=if dB cs=0 then tot ofS cs else 0
def smF (cs:List (List Int)):Int:=if dB cs=0 then tot ofF cs else 0
def smN (cs:List (List Int)):Int:=if dB cs=0 then tot ofN cs else 0
theorem uw(cs:List (List Int)):dB cs=0↔∀c∈cs,f8 c=0:=by
 induction cs with
 | nil=>simp[dB]
 | cons c cs ih =>
  simp only[dB];by_cases h:f8 c=0
  .simp[h,ih]
  simp[h]
def chA (cs:List Ch):List (List Int):=cs.map λx=>av x.l
theorem nL(cs:List Ch):(chA cs).length=cs.length:=by simp[chA]
def jC (L:List (List Int)):Value:=.tuple #[ke (smS L) (smF L) (smN L),.int .i64 (dB L)]
theorem xQ{L:List (List Int)}{r:Int}(hk:k<L.length)(h:dB (L.take k)=0)(hr:f8 L[k]=r)(h0:r≠0):jC L=.tuple #[ke 0 0 0,.int .i64 r]:=by have a:=oL hk h;rw[hr] at a;have b:=zi (cs:=L) (k:=k+1) (by rw[a];exact h0);rw[a] at b;simp[jC,smS,smF,smN,b,h0]
theorem sx{L:List (List Int)}(h:dB L=0):jC L=.tuple #[ke (tot ofS L) (tot ofF L) (tot ofN L),.int .i64 0]:=by simp[jC,smS,smF,smN,h]
structure SumRel (H:Nat) (L:List (List Int)) (k:Nat) (w wr:World):Prop where
 below:Below H w wr
 err:dB (L.take k)=0
 res:Bx wr H 61 #[.int .i64 0,.int .i64 0,.int .i64 0]
 out:Bx wr (H+1) 61 #[.int .i64 (tot ofS (L.take k)),.int .i64 (tot ofF (L.take k)),.int .i64 (tot ofN (L.take k))]
theorem EE(A:Option Addr)(cs:List Ch)(c:Nat)(w:World)(hm:cs.length<=4294967296)(hr:RdC w w.heap.size A cs)(hok:∀x∈cs,x.l.length<=maxLen/\RdE w w.heap.size x.A x.l):
 Calls prog 59 #[.slice A cs.length c] w λe w'=>e=.returned (jC (chA cs))/\Below w.heap.size w w':=by
 have HR:=hid hr;have HO:=hid hok;clear hr hok;go_enter func59,ntmps59;go_wp2_with fail;go_loopw [11] (λi wr=>∃k:Nat,k<=cs.length/\i=.int .i64 k/\SumRel w.heap.size (chA cs) k w wr) (λi _=>cs.length-(intOf i).toNat)
 case atStart =>
  refine⟨0,kqz _,rfl,?_,rfl,?_,?_⟩
  . (repeat' (first | with_reducible assumption | with_reducible exact kqk _ _ | (with_reducible refine bp ?_ _) | (with_reducible refine kji ?_) | (with_reducible refine kjj ?_ ?_ _) | (with_reducible refine kq9 ?_ ?_ _)))<;>(first | exact kqa _ | exact kz8 _ | omega | (dsimp only;omega) | ((repeat (first | (with_reducible refine aS ?_) | (with_reducible refine fF ?_) | (with_reducible refine dr ?_)));first | exact kqa _ | omega))
  .exact (Bx.new w _ _).alloc _
  have:=Bx.new (w.alloc (.cells #[.int .i64 0,.int .i64 0,.int .i64 0] 61)) 61 #[.int .i64 0,.int .i64 0,.int .i64 0];rw[kqm] at this;exact this
 obtain⟨k,hk,rfl,hR⟩:=hrel;have a:=hid hR;clear hR;by_cases u:k<cs.length
 .obtain ⟨b,off,rfl,hb,h2⟩:=HR.out.at_ u;replace h2:=(a.out.below.cell (p:=⟨b,off+k,none⟩) hb).trans h2;have g:k<(chA cs).length:=by rw[nL];exact u
  have K:=hid (HO.out cs[k] (kqn u));have F:(chA cs)[k]=av cs[k].l:=by simp[chA]
  have U:=ks ofS g;have T:=ks ofF g;have S:=ks ofN g;have Z:=oL g a.out.err;have f:=λr=>xQ (r:=r) g a.out.err;rw[F] at U T S Z f;generalize cs[k]=x at *;obtain⟨xA,xc,h⟩:=x;dsimp only at *;obtain⟨G,P,Q,q4,q5,q6,q7⟩:=a.out.res.c3;obtain⟨Y,W,X,o4,o5,o6,o7⟩:=a.out.out.c3;have n:=pw ofS 98 wx ((chA cs).take k);have j:=pw ofF 98 vA ((chA cs).take k);have m:=pw ofN 98 wo ((chA cs).take k);have hlk:(((chA cs).take k).length:Int)<=4294967296:=by rw[kq4,nL];omega
  have J:=wx (av h);have I:=vA (av h);have H:=wo (av h);have Eq:h.length<=9223372036854775807:=by have:=K.out.1;unfold maxLen at this;exact this
  have Kx:=hid (K.out.2.up a.out.below a.out.below.size);obtain⟨s',E⟩:∃x,ofS (av h)=x:=⟨_,rfl⟩;obtain⟨f',t⟩:∃x,ofF (av h)=x:=⟨_,rfl⟩;obtain⟨n',B⟩:∃x,ofN (av h)=x:=⟨_,rfl⟩;obtain⟨r,C⟩:=xq (f8 (av h));have HE:=hid (show jw (av h)=.tuple #[.agg #[.int .i64 s',.int .i64 f',.int .i64 n'],.int .i64 r] by rw[jw,ke,E,t,B,C]);rw[E] at U J;rw[t] at T I;rw[B] at S H;rw[C] at Z f;clear E t B C F;obtain⟨s0,z⟩:=xq (tot ofS ((chA cs).take k));obtain⟨f0,D⟩:=xq (tot ofF ((chA cs).take k));obtain⟨n0,s⟩:=xq (tot ofN ((chA cs).take k));rw[z] at U n Y;rw[D] at T j W;rw[s] at S m X;have HS:=hid U;have HF:=hid T;have HN:=hid S;have Kw:=hid Z;have R:=hid (f r rfl);have d:=a.out.out;rw[z,D,s] at d;have N:=hid d;clear U T S Z f z D s d;have hbS2:s0<=420906795008:=by have:=n.2;omega
  have hbF2:f0<=420906795008:=by have:=j.2;omega
  have hbN2:n0<=420906795008:=by have:=m.2;omega
  have hbS1:=n.1;have hbF1:=j.1;have hbN1:=m.1;clear n j m;obtain⟨c1,c2⟩:=J;obtain⟨c3,c4⟩:=I;obtain⟨c5,c6⟩:=H;have V:=a.out.below;have hz:=V.size;go_wp2_with fail;refine (of_c xA h xc _ Eq Kx.out).mono ?_;rintro e w2 ⟨rfl,q⟩;rw[HE.out];have g1:=a.out.res.up q q7;have g2:=N.out.up q o7;clear G P Q q4 q5 q6 Y W X o4 o5 o6 h2;obtain⟨G,P,Q,q4,q5,q6,q7'⟩:=g1.c3;obtain⟨Y,W,X,o4,o5,o6,o7'⟩:=g2.c3;have hb2:=V.trans (q.mono hz);by_cases M:r=0
  .subst M;have G1:=hid g1;have G2:=hid g2;clear g1 g2;go_wp2;go_roundw
   case rel =>
    refine⟨k+1,by omega,by go_num,?_,Kw.out,?_,?_⟩
    . (repeat' (first | with_reducible assumption | with_reducible exact kqk _ _ | (with_reducible refine bp ?_ _) | (with_reducible refine kji ?_) | (with_reducible refine kjj ?_ ?_ _) | (with_reducible refine kq9 ?_ ?_ _)))<;>(first | exact kqa _ | exact kz8 _ | omega | (dsimp only;omega) | ((repeat (first | (with_reducible refine aS ?_) | (with_reducible refine fF ?_) | (with_reducible refine dr ?_)));first | exact kqa _ | omega))
    .exact (((G1.out.far (by dsimp only;omega) _).far (by dsimp only;omega) _).far (by dsimp only;omega) _).alloc _
    rw[HS.out,HF.out,HN.out];exact (((G2.out.set_ 0 _).set_ 1 _).set_ 2 _).alloc _
   case measure=>simp[intOf];omega
  have hn1:(r==0)=false:=by rw[kqi];exact M
  have hn2:(r != 0)=true:=by rw[kqv];exact M
  have y:=hid (R.out M);clear M;go_wp2_with fail;refine kqq (v:=.tuple #[ke 0 0 0,.int .i64 r]) (by simp[results,results59,go_sem,ke,G,P,Q,q7']) rfl ⟨by rw[y.out],?_⟩;(repeat' (first | with_reducible assumption | with_reducible exact kqk _ _ | (with_reducible refine bp ?_ _) | (with_reducible refine kji ?_) | (with_reducible refine kjj ?_ ?_ _) | (with_reducible refine kq9 ?_ ?_ _)))<;>(first | exact kqa _ | exact kz8 _ | omega | (dsimp only;omega) | ((repeat (first | (with_reducible refine aS ?_) | (with_reducible refine fF ?_) | (with_reducible refine dr ?_)));first | exact kqa _ | omega))
 have:k=cs.length:=by omega
 subst this;have V:=a.out.below;have hz:=V.size;have o:=sx (L:=chA cs) (by have:=a.out.err;rwa [<-nL cs,kzf] at this);have d:=a.out.out;rw[<-nL cs,kzf] at d;obtain⟨G,P,Q,q4,q5,q6,q7⟩:=a.out.res.c3;generalize tot ofS (chA cs)=s0 at *;generalize tot ofF (chA cs)=f0 at *;generalize tot ofN (chA cs)=n0 at *;have O:=hid o;obtain⟨Y,W,X,o4,o5,o6,o7⟩:=d.c3;clear o d;go_wp2_with fail;refine kqq (v:=.tuple #[ke s0 f0 n0,.int .i64 0]) (by simp[results,results59,go_sem,ke,G,P,Q]) rfl ⟨by rw[O.out],?_⟩;(repeat' (first|with_reducible assumption|with_reducible exact kqk _ _ | (with_reducible refine bp ?_ _) | (with_reducible refine kji ?_) | (with_reducible refine kjj ?_ ?_ _) | (with_reducible refine kq9 ?_ ?_ _)))<;>(first|exact kqa _|exact kz8 _|omega | (dsimp only;omega) | ((repeat (first | (with_reducible refine aS ?_) | (with_reducible refine fF ?_) | (with_reducible refine dr ?_)));first|exact kqa _|omega))
theorem sum_n(A:Option Addr)(cs:List Ch)(c n:Nat)(w:World)(hn:cs.length=n)(hm:n<=4294967296)(hr:RdC w w.heap.size A cs)(hok:∀x∈cs,x.l.length<=maxLen/\RdE w w.heap.size x.A x.l):
 Calls prog 59 #[.slice A n c] w λe w'=>e=.returned (jC (chA cs))/\Below w.heap.size w w':=by subst hn;exact EE A cs c w hm hr hok
end Go.Proofs.YtpcajamacpbjcaaGreat
