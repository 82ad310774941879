/- Texts laid together: EffP EffQ Eff SumP Sum Bnd. -/
import Derived.Test.YtpcajamacpbjcaaGreatZKPlain
set_option maxHeartbeats 16000000
set_option maxRecDepth 100000
set_option linter.all false
namespace Go.Proofs.YtpcajamacpbjcaaGreat
open Lib (hid)
variable {ad:List Int}{H k n x:Nat}{w wr:World}
open Go.Proofs.Tryz
def aJ (ad:List Int) (x:Int):Nat->Bool
 | 0=>false
 | i+1=>aJ ad x i||((ad[i]?.getD 0)/8==x/8)
def bT (ad:List Int) (x:Int):Nat->Bool
 | 0=>false
 | i+1=>bT ad x i||((ad[i]?.getD 0)==x)
def gY (ad:List Int):Nat->Bool
 | 0=>true
 | k+1=>gY ad k&&(decide (0<=ad[k]?.getD 0)&&decide (ad[k]?.getD 0<2048) && !bT ad (ad[k]?.getD 0) k)
def eU (ad:List Int):Nat->Nat
 | 0=>0
 | k+1=>eU ad k+if aJ ad (ad[k]?.getD 0) k then 0 else 1
theorem kE(ad:List Int)(k:Nat):eU ad k<=k:=by
 induction k with
 | zero=>simp[eU]
 | succ k ih=>simp only[eU];split<;>omega
theorem v8(h:gY ad n=true)(hk:k<=n):gY ad k=true:=by
 induction n with
 | zero =>
  have:k=0:=by omega
  subst this;exact h
 | succ n ih =>
  rcases kq6 k (n+1) with a|a
  .simp only[gY,kqt] at h;exact ih h.1 (by omega)
  have:k=n+1:=by omega
  subst this;exact h
theorem sY(h:gY ad k=false)(hk:k<=n):gY ad n=false:=by
 cases a:gY ad n with
 | false=>rfl
 | true=>rw[v8 a hk] at h;cases h
def ge (ad:List Int):Int:=if ad.length=0 then 0 else 3*ad.length+2
def fc (ad:List Int):Int:=if ad.length=0 then 0 else (2*ad.length+7)/8+eU ad ad.length+2
def gw (ad:List Int):Int:=if ad.length=0 then 0 else 4
def gm (ad:List Int):Int:=if 32<ad.length then 4 else if gY ad ad.length then 0 else 2
def ofS (ad:List Int):Int:=if gm ad=0 then ge ad else 0
def ofF (ad:List Int):Int:=if gm ad=0 then fc ad else 0
def ofN (ad:List Int):Int:=if gm ad=0 then gw ad else 0
theorem xM(h:32<ad.length):gm ad=4:=by simp[gm,h]
theorem zk(h:ad.length<=32)(hk:gY ad k=false)(hn:k<=ad.length):gm ad=2:=by
 have:¬ 32<ad.length:=by omega
 simp[gm,this,sY hk hn]
theorem uX(h:ad.length<=32)(hk:gY ad ad.length=true):gm ad=0:=by
 have:¬ 32<ad.length:=by omega
 simp[gm,this,hk]
theorem sC(h:¬ (0<=ad[k]?.getD 0/\ad[k]?.getD 0<2048)):gY ad (k+1)=false:=by
 simp only[gY,kki,kqc];by_cases a:0<=ad[k]?.getD 0
 .exact .inr (.inl (.inr (λb=>h ⟨a,b⟩)))
 exact .inr (.inl (.inl a))
theorem lY(h:gY ad k=true)(h0:0<=ad[k]?.getD 0)(h1:ad[k]?.getD 0<2048)(h2:bT ad (ad[k]?.getD 0) k=false):gY ad (k+1)=true:=by simp[gY,h,h0,h1,h2]
theorem nm(ad:List Int)(x y:Int)(h:x/8=y/8)(k:Nat):aJ ad x k=aJ ad y k:=by
 induction k with
 | zero=>rfl
 | succ k ih=>simp only[aJ,ih,h]
open Go.RowKit
def gy (s f n:Int):Value:=.agg #[.int .i64 s,.int .i64 f,.int .i64 n]
def jt (ad:List Int):Value:=.tuple #[gy (ofS ad) (ofF ad) (ofN ad),.int .i64 (gm ad)]
theorem pa{e:Int}(h:gm ad=e)(h0:e≠0):jt ad=.tuple #[gy 0 0 0,.int .i64 e]:=by simp[jt,ofS,ofF,ofN,h,h0]
theorem AQ(h:gm ad=0):jt ad=.tuple #[gy (ge ad) (fc ad) (gw ad),.int .i64 0]:=by simp[jt,ofS,ofF,ofN,h]
def jo:Array Value:=Array.replicate 2048 (.bool false)
def oa:Array Value:=Array.replicate 256 (.bool false)
theorem E4(w:World):(zeroValue 155).run prog w=.ok (.agg jo) w:=by kernel_rfl
theorem Hh(w:World):(zeroValue 156).run prog w=.ok (.agg oa) w:=by kernel_rfl
theorem IY(w:World):(w.alloc (.cells jo 155)).rowIs w.heap.size 155 2048 (λ_=>.bool false):=
 ⟨jo,heap_alloc_new w _,by simp[jo],λi a=>by simp[jo,a]⟩
theorem row256(w:World):(w.alloc (.cells oa 156)).rowIs w.heap.size 156 256 (λ_=>.bool false):=
 ⟨oa,heap_alloc_new w _,by simp[oa],λi a=>by simp[oa,a]⟩
theorem IG(x gl gs:Nat)(w:World)(hx:x<2048)(hc:w.cell? ⟨gl,x/8,none⟩=some (.bool true)):
 Calls prog 88 #[.int .i64 (x:Int),.pointer (some ⟨gl,0,none⟩),.pointer (some ⟨gs,0,none⟩)] w λe w'=>e=.returned (.tuple #[])/\w=w':=by go_enter func88,ntmps88;go_wp2;go_end0;exact⟨rfl,rfl⟩
theorem DF(x gl gs n:Nat)(w:World)(hx:x<2048)(hn:n<=32)(hg:gl≠gs)(hc:w.cell? ⟨gl,x/8,none⟩=some (.bool false))(hf:w.frozen? ⟨gl,x/8,none⟩=false)(hs:w.cell? ⟨gs,0,none⟩=some (.int .i64 (n:Int)))(hsf:w.frozen? ⟨gs,0,none⟩=false):
 Calls prog 88 #[.int .i64 (x:Int),.pointer (some ⟨gl,0,none⟩),.pointer (some ⟨gs,0,none⟩)] w λe w'=>e=.returned (.tuple #[]) /\
  (w.setCell ⟨gl,x/8,none⟩ (.bool true)).setCell ⟨gs,0,none⟩ (.int .i64 ((n:Int)+1))=w':=by have hg':gs≠gl:=λh=>hg h.symm;go_enter func88,ntmps88;go_wp2;go_end0;exact⟨rfl,rfl⟩
structure OfRel (H:Nat) (ad:List Int) (k:Nat) (w wr:World):Prop where
 below:Below H w wr
 res:wr.rowIs H 61 3 (λ_=>.int .i64 0)
 words:wr.rowIs (H+1) 155 2048 (λi=>.bool (bT ad (i:Int) k))
 lines:wr.rowIs (H+1+1) 156 256 (λi=>.bool (aJ ad (8*(i:Int)) k))
 sev:wr.rowIs (H+1+1+1) 3 1 (λ_=>.int .i64 (eU ad k:Nat))
theorem OfRel.start(w:World)(ad:List Int):OfRel w.heap.size ad 0 w ((((w.alloc (.cells #[.int .i64 0,.int .i64 0,.int .i64 0] 61)).alloc (.cells jo 155)).alloc (.cells oa 156)).alloc (.cells #[.int .i64 0] 3)):=by
 have d:=IY (w.alloc (.cells #[.int .i64 0,.int .i64 0,.int .i64 0] 61));have b:=row256 ((w.alloc (.cells #[.int .i64 0,.int .i64 0,.int .i64 0] 61)).alloc (.cells jo 155));simp only[kqm] at d b;refine⟨?_,?_,?_,?_,?_⟩
 . (repeat' (first | with_reducible assumption | with_reducible exact kqk _ _ | (with_reducible refine aW ?_ _) | (with_reducible refine kjh ?_) | (with_reducible refine kji ?_ ?_ _) | (with_reducible refine kq7 ?_ ?_ _)))<;>(first | exact kqa _ | exact kz4 _ | omega | (dsimp only;omega) | ((repeat (first | (with_reducible refine aS ?_) | (with_reducible refine fp ?_) | (with_reducible refine dj ?_)));first | exact kqa _ | omega))
 .exact ((World.rowIs.alloc (⟨#[.int .i64 0,.int .i64 0,.int .i64 0],heap_alloc_new w _,rfl,λi a=>by
   match i,a with
   | 0,_=>rfl
   | 1,_=>rfl
   | 2,_=>rfl⟩) _).alloc _).alloc _
 .exact (d.alloc _).alloc _
 .exact b.alloc _
 have c:=heap_alloc_new (((w.alloc (.cells #[.int .i64 0,.int .i64 0,.int .i64 0] 61)).alloc (.cells jo 155)).alloc (.cells oa 156)) (.cells #[.int .i64 0] 3);simp only[kqm] at c;exact⟨#[.int .i64 0],c,rfl,λi a=>by
  match i,a with
  | 0,_=>rfl⟩
theorem OfRel.wstep(h:OfRel H ad k w wr)(hx:ad[k]?.getD 0=(x:Int)):
 (wr.setCell ⟨H+1,x,none⟩ (.bool true)).rowIs (H+1) 155 2048 (λi=>.bool (bT ad (i:Int) (k+1))):=
 (h.words.set x (.bool true)).congr λi _=>by
  simp only[bT,hx]
  by_cases e:i=x
  .subst e;simp
  .have:((x:Int)==(i:Int))=false:=by rw[kqi];omega
   simp[e,this]
theorem OfRel.step_new(h:OfRel H ad k w wr)(hx:ad[k]?.getD 0=(x:Int))(hl:aJ ad (8*((x/8:Nat):Int)) k=false)(o:Obj):
 OfRel H ad (k+1) w ((((wr.setCell ⟨H+1,x,none⟩ (.bool true)).setCell ⟨H+1+1,x/8,none⟩ (.bool true)).setCell ⟨H+1+1+1,0,none⟩ (.int .i64 ((eU ad k:Nat)+1))).alloc o):=by
 have hz3:=h.sev.lt;have hB:=h.below;refine⟨?_,?_,?_,?_,?_⟩
 . (repeat' (first | with_reducible assumption | with_reducible exact kqk _ _ | (with_reducible refine aW ?_ _) | (with_reducible refine kjh ?_) | (with_reducible refine kji ?_ ?_ _) | (with_reducible refine kq7 ?_ ?_ _)))<;>(first | exact kqa _ | exact kz4 _ | omega | (dsimp only;omega) | ((repeat (first | (with_reducible refine aS ?_) | (with_reducible refine fp ?_) | (with_reducible refine dj ?_)));first | exact kqa _ | omega))
 .have b:=h.res;(repeat' (first | with_reducible exact b | (with_reducible refine World.rowIs.alloc ?_ _) | (with_reducible refine World.rowIs.setOther ?_ ?_ _) | (with_reducible refine iX ?_ _)))<;>(dsimp only;omega)
 .have b:=h.wstep hx;(repeat' (first | with_reducible exact b | (with_reducible refine World.rowIs.alloc ?_ _) | (with_reducible refine World.rowIs.setOther ?_ ?_ _) | (with_reducible refine iX ?_ _)))<;>(dsimp only;omega)
 .refine (World.rowIs.setOther (World.rowIs.congr ((World.rowIs.setOther h.lines (a:=⟨H+1,x,none⟩) (by dsimp only;omega) _).set (x/8) (.bool true)) ?_) (by dsimp only;omega) _).alloc _;intro i c;simp only[aJ,hx];by_cases e:i=x/8
  .subst e;have:((x:Int)/8==8*((x/8:Nat):Int)/8)=true:=by rw[kqw];omega
   rw[this,if_pos rfl,kvc]
  have:((x:Int)/8==8*(i:Int)/8)=false:=by rw[kqi];omega
  rw[this,if_neg e,kkl]
 refine (World.rowIs.congr ((World.rowIs.setOther (World.rowIs.setOther h.sev (a:=⟨H+1,x,none⟩) (by dsimp only;omega) _) (a:=⟨H+1+1,x/8,none⟩) (by dsimp only;omega) _).set 0 _) ?_).alloc _;intro i c;have e:i=0:=by omega
 subst e;have:aJ ad (x:Int) k=false:=by rw[nm ad (x:Int) (8*((x/8:Nat):Int)) (by omega)];exact hl
 simp[eU,hx,this]
theorem OfRel.step_old(h:OfRel H ad k w wr)(hx:ad[k]?.getD 0=(x:Int))(hl:aJ ad (8*((x/8:Nat):Int)) k=true)(o:Obj):
 OfRel H ad (k+1) w ((wr.setCell ⟨H+1,x,none⟩ (.bool true)).alloc o):=by
 have hz3:=h.sev.lt;have hB:=h.below;refine⟨?_,?_,?_,?_,?_⟩
 . (repeat' (first | with_reducible assumption | with_reducible exact kqk _ _ | (with_reducible refine aW ?_ _) | (with_reducible refine kjh ?_) | (with_reducible refine kji ?_ ?_ _) | (with_reducible refine kq7 ?_ ?_ _)))<;>(first | exact kqa _ | exact kz4 _ | omega | (dsimp only;omega) | ((repeat (first | (with_reducible refine aS ?_) | (with_reducible refine fp ?_) | (with_reducible refine dj ?_)));first | exact kqa _ | omega))
 .have b:=h.res;(repeat' (first | with_reducible exact b | (with_reducible refine World.rowIs.alloc ?_ _) | (with_reducible refine World.rowIs.setOther ?_ ?_ _) | (with_reducible refine iX ?_ _)))<;>(dsimp only;omega)
 .have b:=h.wstep hx;(repeat' (first | with_reducible exact b | (with_reducible refine World.rowIs.alloc ?_ _) | (with_reducible refine World.rowIs.setOther ?_ ?_ _) | (with_reducible refine iX ?_ _)))<;>(dsimp only;omega)
 .refine (World.rowIs.congr (World.rowIs.setOther h.lines (a:=⟨H+1,x,none⟩) (by dsimp only;omega) _) ?_).alloc _;intro i c;simp only[aJ,hx];by_cases e:i=x/8
  .rw[e,hl,kkw]
  have:((x:Int)/8==8*(i:Int)/8)=false:=by rw[kqi];omega
  rw[this,kkl]
 refine (World.rowIs.congr (World.rowIs.setOther h.sev (a:=⟨H+1,x,none⟩) (by dsimp only;omega) _) ?_).alloc _;intro i c;have e:i=0:=by omega
 subst e;have:aJ ad (x:Int) k=true:=by rw[nm ad (x:Int) (8*((x/8:Nat):Int)) (by omega)];exact hl
 simp[eU,hx,this]
theorem of_c(A:Option Addr)(l:List En)(c:Nat)(w:World)(hm:l.length<=9223372036854775807)(hr:RdE w w.heap.size A l):
 Calls prog 44 #[.slice A l.length c] w λe w'=>e=.returned (jt (au l))/\Below w.heap.size w w':=by
 have HR:=hid hr;clear hr;by_cases h:32<l.length
 .have g:=hid (pa (xM (ad:=au l) (by rw[aT];exact h)) (by omega));go_enter func44,ntmps44;go_wp2_with fail;exact kqo (v:=.tuple #[gy 0 0 0,.int .i64 4]) (by simp[results,results44,go_sem,gy]) rfl ⟨by rw[g.out],(kqk _ _).alloc (kqa _) _⟩
 have M:l.length<=32:=by omega
 clear h;have R:=E4;have S:=Hh;go_enter func44,ntmps44;go_wp2_with fail;clear R S;go_loopw [19] (λi wr=>∃k:Nat,k<=l.length/\i=.int .i64 k/\gY (au l) k=true/\OfRel w.heap.size (au l) k w wr) (λi _=>l.length-(intOf i).toNat)
 case atStart =>
  exact⟨0,kqy _,rfl,rfl,OfRel.start w _⟩
 obtain⟨k,hk,rfl,L,hR⟩:=hrel;have K:=hid L;clear L;have d:=hid hR;clear hR;have t:=d.out.res.lt;have R:=d.out.words.lt;have S:=d.out.lines.lt;have hz3:=d.out.sev.lt;have u:=d.out.res.cell (i:=0) (by omega);have E:=d.out.res.cell (i:=1) (by omega);have C:=d.out.res.cell (i:=2) (by omega);have hf0:=d.out.res.frozen 0;have hf1:=d.out.res.frozen 1;have hf2:=d.out.res.frozen 2;by_cases F:k<l.length
 .obtain ⟨b,U,rfl,hb,h2,V⟩:=HR.out.at_ F;have B:=hid (dY l k F);replace h2:=(d.out.below.cell (p:=⟨b,U+k*2,none⟩) hb).trans h2;replace V:=(d.out.below.cell (p:=⟨b,U+k*2+1,none⟩) hb).trans V;generalize hx:l[k].a=x at *;generalize hv:l[k].v=v at *;have HX:=hid hx;have HV:=hid hv;clear hx hv;have hz4:b<wr.heap.size:=by omega
  have g:∀w':World,gY (au l) (k+1)=false->Below w.heap.size w w' ->
   Ending.returned (.tuple #[gy 0 0 0,.int .i64 2])=.returned (jt (au l))/\Below w.heap.size w w':=
   λ_ h1 V=>⟨by rw[pa (zk (by rw[aT];exact M) h1 (by rw[aT];exact F)) (by omega)],V⟩
  have r:=hid g;clear g;have hB:=d.out.below;by_cases W:x<0
  .have q:=hid (sC (ad:=au l) (k:=k) (by rw[B.out];omega));go_wp2_with fail;refine kqo (v:=.tuple #[gy 0 0 0,.int .i64 2]) (by simp[results,results44,go_sem,gy,u,E,C,t]) rfl (r.out _ q.out ?_);(repeat' (first | with_reducible assumption | with_reducible exact kqk _ _ | (with_reducible refine aW ?_ _) | (with_reducible refine kjh ?_) | (with_reducible refine kji ?_ ?_ _) | (with_reducible refine kq7 ?_ ?_ _)))<;>(first | exact kqa _ | exact kz4 _ | omega | (dsimp only;omega) | ((repeat (first | (with_reducible refine aS ?_) | (with_reducible refine fp ?_) | (with_reducible refine dj ?_)));first | exact kqa _ | omega))
  obtain⟨x,rfl⟩:=kq2 (show 0<=x by omega);clear W;by_cases Y:2048<=x
  .have q:=hid (sC (ad:=au l) (k:=k) (by rw[B.out];omega));go_wp2_with fail;refine kqo (v:=.tuple #[gy 0 0 0,.int .i64 2]) (by simp[results,results44,go_sem,gy,u,E,C,t]) rfl (r.out _ q.out ?_);(repeat' (first | with_reducible assumption | with_reducible exact kqk _ _ | (with_reducible refine aW ?_ _) | (with_reducible refine kjh ?_) | (with_reducible refine kji ?_ ?_ _) | (with_reducible refine kq7 ?_ ?_ _)))<;>(first | exact kqa _ | exact kz4 _ | omega | (dsimp only;omega) | ((repeat (first | (with_reducible refine aS ?_) | (with_reducible refine fp ?_) | (with_reducible refine dj ?_)));first | exact kqa _ | omega))
  have I:x<2048:=by omega
  clear Y;have T:=d.out.words.cell (i:=x) I;have hwf:=d.out.words.frozen x;have N:=d.out.lines.cell (i:=x/8) (by omega);have hlf:=d.out.lines.frozen (x/8);have Q:=d.out.sev.cell (i:=0) (by omega);have X:=d.out.sev.frozen 0;cases j:bT (au l) x k
  .have O:=hid j;rw[j] at T;clear j;cases o:aJ (au l) (8*((x/8:Nat):Int)) k
   .rw[o] at N;have J:=hid o;clear o;have H:=kE (au l) k;go_wp2_with fail;refine (DF x (w.heap.size+1+1) (w.heap.size+1+1+1) (eU (au l) k) _ I (by omega) (by omega) (by go_simp) (by go_simp) (by go_simp) (by go_simp)).mono ?_;rintro e w1 ⟨rfl,rfl⟩;go_wp2;go_roundw
    case rel =>
     exact⟨k+1,by omega,by go_num,lY K.out (by rw[B.out];omega) (by rw[B.out];omega) (by rw[B.out];exact O.out),d.out.step_new B.out J.out _⟩
    case measure=>simp[intOf];omega
   rw[o] at N;have J:=hid o;clear o;go_wp2_with fail;refine (IG x (w.heap.size+1+1) (w.heap.size+1+1+1) _ I (by go_simp)).mono ?_;rintro e w1 ⟨rfl,rfl⟩;go_wp2;go_roundw
   case rel =>
    exact⟨k+1,by omega,by go_num,lY K.out (by rw[B.out];omega) (by rw[B.out];omega) (by rw[B.out];exact O.out),d.out.step_old B.out J.out _⟩
   case measure=>simp[intOf];omega
  rw[j] at T;have q:=hid (show gY (au l) (k+1)=false by simp[gY,B.out,j]);clear j;go_wp2_with fail;refine kqo (v:=.tuple #[gy 0 0 0,.int .i64 2]) (by simp[results,results44,go_sem,gy,u,E,C,t]) rfl (r.out _ q.out ?_);(repeat' (first | with_reducible assumption | with_reducible exact kqk _ _ | (with_reducible refine aW ?_ _) | (with_reducible refine kjh ?_) | (with_reducible refine kji ?_ ?_ _) | (with_reducible refine kq7 ?_ ?_ _)))<;>(first | exact kqa _ | exact kz4 _ | omega | (dsimp only;omega) | ((repeat (first | (with_reducible refine aS ?_) | (with_reducible refine fp ?_) | (with_reducible refine dj ?_)));first | exact kqa _ | omega))
 have:k=l.length:=by omega
 subst this;have Q := d.out.sev.cell (i := 0) (by omega);have X := d.out.sev.frozen 0;have H := kE (au l) l.length;have hz:Hid (jt (au l)=.tuple #[gy (ge (au l)) (fc (au l)) (gw (au l)),.int .i64 0]):=
  AQ (uX (by rw[aT];exact M) (by rw[aT];exact K.out))
 have hB:=d.out.below;have G:∀w':World,Below w.heap.size w w'->Ending.returned (.tuple #[gy (ge (au l)) (fc (au l)) (gw (au l)),.int .i64 0])=.returned (jt (au l))/\Below w.heap.size w w':=λ_ h=>⟨by rw[hz.out],h⟩;have f:=hid G;clear G F;by_cases y:l.length=0
 .obtain ⟨n,Z⟩:∃n,n=l.length:=⟨_,rfl⟩;have P:eU (au l) l.length=0:=by rw[y];rfl
  have s:ge (au l)=0:=by simp[ge,aT,y]
  have D:fc (au l)=0:=by simp[fc,aT,y]
  have z:gw (au l)=0:=by simp[gw,aT,y]
  rw[s,D,z] at f;rw[P] at Q;clear s D z P hz H;rw[<-Z] at y;have H0:=hid y;rw[<-Z,y];clear y Z;go_wp2_with fail;refine kqo (v:=.tuple #[gy 0 0 0,.int .i64 0]) (by simp[results,results44,go_sem,gy,u,E,C,t]) rfl (f.out _ ?_);(repeat' (first | with_reducible assumption | with_reducible exact kqk _ _ | (with_reducible refine aW ?_ _) | (with_reducible refine kjh ?_) | (with_reducible refine kji ?_ ?_ _) | (with_reducible refine kq7 ?_ ?_ _)))<;>(first | exact kqa _ | exact kz4 _ | omega | (dsimp only;omega) | ((repeat (first | (with_reducible refine aS ?_) | (with_reducible refine fp ?_) | (with_reducible refine dj ?_)));first | exact kqa _ | omega))
 have s:ge (au l)=3*l.length+2:=by simp[ge,aT,y]
 have D:fc (au l)=(2*l.length+8-1)/8+eU (au l) l.length+2:=by rw[show (2*(l.length:Int)+8-1)=2*l.length+7 from by omega];simp[fc,aT,y]
 have z:gw (au l)=4:=by simp[gw,aT,y]
 rw[s,D,z] at f;clear s D z hz;generalize eU (au l) l.length=m at *;have hne:(((3*(l.length:Int)+2==2))=false):=by rw[kqi];omega
 go_wp2_with fail;refine kqo (v:=.tuple #[gy (3*l.length+2) ((2*l.length+8-1)/8+m+2) 4,.int .i64 0]) (by simp[results,results44,go_sem,gy,u,E,C,t]) rfl (f.out _ ?_);(repeat' (first | with_reducible assumption | with_reducible exact kqk _ _ | (with_reducible refine aW ?_ _) | (with_reducible refine kjh ?_) | (with_reducible refine kji ?_ ?_ _) | (with_reducible refine kq7 ?_ ?_ _)))<;>(first | exact kqa _ | exact kz4 _ | omega | (dsimp only;omega) | ((repeat (first | (with_reducible refine aS ?_) | (with_reducible refine fp ?_) | (with_reducible refine dj ?_)));first | exact kqa _ | omega))
def dp:List (List Int)->Int
 | []=>0
 | c::cs=>if gm c=0 then dp cs else gm c
def tot (f:List Int->Int):List (List Int)->Int
 | []=>0
 | c::cs=>f c+tot f cs
theorem kM(a b:List (List Int)):dp (a++b)=if dp a=0 then dp b else dp a:=by
 induction a with
 | nil=>simp[dp]
 | cons c a ih =>
  simp only[kzm,dp];by_cases h:gm c=0
  .simp[h,ih]
  simp[h]
theorem wv(f:List Int->Int)(a b:List (List Int)):tot f (a++b)=tot f a+tot f b:=by
 induction a with
 | nil=>simp[tot]
 | cons c a ih=>simp only[kzm,tot,ih];omega
theorem oP(f:List Int->Int)(m:Int)(hf:∀c,0<=f c/\f c<=m)(a:List (List Int)):0<=tot f a/\tot f a<=m*a.length:=by
 induction a with
 | nil=>simp[tot]
 | cons c a ih =>
  have:=hf c;simp only[tot,kq0];have e:m*((a.length+1:Nat):Int)=m*a.length+m:=by rw[kjn,Int.mul_add];simp
  rw[e];omega
theorem rC(h:gm ad=0):ad.length<=32/\gY ad ad.length=true:=by
 unfold gm at h;split at h
 .simp at h
 split at h
 .exact ⟨by omega,by assumption⟩
 simp at h
theorem BI(ad:List Int):0<=ofS ad/\ofS ad<=98:=by
 unfold ofS;split
 .have:=(rC ‹_›).1;unfold ge;split<;>omega
 omega
theorem Ae(ad:List Int):0<=ofF ad/\ofF ad<=98:=by
 unfold ofF;split
 .have:=(rC ‹_›).1;have:=kE ad ad.length;unfold fc;split<;>omega
 omega
theorem zc(ad:List Int):0<=ofN ad/\ofN ad<=98:=by
 unfold ofN;split
 .unfold gw;split<;>omega
 omega
theorem nY{cs:List (List Int)}(hk:k<cs.length)(h:dp (cs.take k)=0):dp (cs.take (k+1))=gm cs[k]:=by
 rw[kqp hk,kM,if_pos h];simp only[dp];split
 .simp[*]
 rfl
theorem pP(f:List Int->Int){cs:List (List Int)}(hk:k<cs.length):tot f (cs.take (k+1))=tot f (cs.take k)+f cs[k]:=by rw[kqp hk,wv];simp[tot]
theorem yh{cs:List (List Int)}(h:dp (cs.take k)≠0):dp cs=dp (cs.take k):=by have:=kM (cs.take k) (cs.drop k);rw[kxa,if_neg h] at this;exact this
def smS (cs:List (List Int)):Int:=if dp cs=0 then tot ofS cs else 0
def smF (cs:List (List Int)):Int:=if dp cs=0 then tot ofF cs else 0
def smN (cs:List (List Int)):Int:=if dp cs=0 then tot ofN cs else 0
def chA (cs:List Ch):List (List Int):=cs.map λx=>au x.l
theorem qj(cs:List Ch):(chA cs).length=cs.length:=by simp[chA]
def jX (L:List (List Int)):Value:=.tuple #[gy (smS L) (smF L) (smN L),.int .i64 (dp L)]
theorem yx{L:List (List Int)}{r:Int}(hk:k<L.length)(h:dp (L.take k)=0)(hr:gm L[k]=r)(h0:r≠0):jX L=.tuple #[gy 0 0 0,.int .i64 r]:=by have a:=nY hk h;rw[hr] at a;have b:=yh (cs:=L) (k:=k+1) (by rw[a];exact h0);rw[a] at b;simp[jX,smS,smF,smN,b,h0]
theorem sL{L:List (List Int)}(h:dp L=0):jX L=.tuple #[gy (tot ofS L) (tot ofF L) (tot ofN L),.int .i64 0]:=by simp[jX,smS,smF,smN,h]
structure SumRel (H:Nat) (L:List (List Int)) (k:Nat) (w wr:World):Prop where
 below:Below H w wr
 err:dp (L.take k)=0
 res:Bx wr H 61 #[.int .i64 0,.int .i64 0,.int .i64 0]
 out:Bx wr (H+1) 61 #[.int .i64 (tot ofS (L.take k)),.int .i64 (tot ofF (L.take k)),.int .i64 (tot ofN (L.take k))]
theorem Eb(A:Option Addr)(cs:List Ch)(c:Nat)(w:World)(hm:cs.length<=4294967296)(hr:RdC w w.heap.size A cs)(hok:∀x∈cs,x.l.length<=maxLen/\RdE w w.heap.size x.A x.l):
 Calls prog 59 #[.slice A cs.length c] w λe w'=>e=.returned (jX (chA cs))/\Below w.heap.size w w':=by
 have HR:=hid hr;have HO:=hid hok;clear hr hok;go_enter func59,ntmps59;go_wp2_with fail;go_loopw [11] (λi wr=>∃k:Nat,k<=cs.length/\i=.int .i64 k/\SumRel w.heap.size (chA cs) k w wr) (λi _=>cs.length-(intOf i).toNat)
 case atStart =>
  refine⟨0,kqy _,rfl,?_,rfl,?_,?_⟩
  . (repeat' (first | with_reducible assumption | with_reducible exact kqk _ _ | (with_reducible refine aW ?_ _) | (with_reducible refine kjh ?_) | (with_reducible refine kji ?_ ?_ _) | (with_reducible refine kq7 ?_ ?_ _)))<;>(first | exact kqa _ | exact kz4 _ | omega | (dsimp only;omega) | ((repeat (first | (with_reducible refine aS ?_) | (with_reducible refine fp ?_) | (with_reducible refine dj ?_)));first | exact kqa _ | omega))
  .exact (Bx.new w _ _).alloc _
  have:=Bx.new (w.alloc (.cells #[.int .i64 0,.int .i64 0,.int .i64 0] 61)) 61 #[.int .i64 0,.int .i64 0,.int .i64 0];rw[kqm] at this;exact this
 obtain⟨k,hk,rfl,hR⟩:=hrel;have a:=hid hR;clear hR;by_cases s:k<cs.length
 .obtain ⟨b,off,rfl,hb,h2⟩:=HR.out.at_ s;replace h2:=(a.out.below.cell (p:=⟨b,off+k,none⟩) hb).trans h2;have g:k<(chA cs).length:=by rw[qj];exact s
  have K:=hid (HO.out cs[k] (kqq s));have I:(chA cs)[k]=au cs[k].l:=by simp[chA]
  have U:=pP ofS g;have J:=pP ofF g;have P:=pP ofN g;have Z:=nY g a.out.err;have f:=λr=>yx (r:=r) g a.out.err;rw[I] at U J P Z f;generalize cs[k]=x at *;obtain⟨xA,xc,h⟩:=x;dsimp only at *;obtain⟨F,O,N,q4,q5,q6,q7⟩:=a.out.res.c3;obtain⟨X,V,Y,o4,o5,o6,o7⟩:=a.out.out.c3;have n:=oP ofS 98 BI ((chA cs).take k);have m:=oP ofF 98 Ae ((chA cs).take k);have j:=oP ofN 98 zc ((chA cs).take k);have hlk:(((chA cs).take k).length:Int)<=4294967296:=by rw[kq3,qj];omega
  have M:=BI (au h);have T:=Ae (au h);have S:=zc (au h);have Ka:h.length<=9223372036854775807:=by have:=K.out.1;unfold maxLen at this;exact this
  have Eq:=hid (K.out.2.up a.out.below a.out.below.size);obtain⟨s',t⟩:∃x,ofS (au h)=x:=⟨_,rfl⟩;obtain⟨f',B⟩:∃x,ofF (au h)=x:=⟨_,rfl⟩;obtain⟨n',E⟩:∃x,ofN (au h)=x:=⟨_,rfl⟩;obtain⟨r,C⟩:=xq (gm (au h));have HE:=hid (show jt (au h)=.tuple #[.agg #[.int .i64 s',.int .i64 f',.int .i64 n'],.int .i64 r] by rw[jt,gy,t,B,E,C]);rw[t] at U M;rw[B] at J T;rw[E] at P S;rw[C] at Z f;clear t B E C I;obtain⟨s0,u⟩:=xq (tot ofS ((chA cs).take k));obtain⟨f0,D⟩:=xq (tot ofF ((chA cs).take k));obtain⟨n0,z⟩:=xq (tot ofN ((chA cs).take k));rw[u] at U n X;rw[D] at J m V;rw[z] at P j Y;have HS:=hid U;have HF:=hid J;have HN:=hid P;have Kb:=hid Z;have Q:=hid (f r rfl);have d:=a.out.out;rw[u,D,z] at d;have R:=hid d;clear U J P Z f u D z d;have hbS2:s0<=420906795008:=by have:=n.2;omega
  have hbF2:f0<=420906795008:=by have:=m.2;omega
  have hbN2:n0<=420906795008:=by have:=j.2;omega
  have hbS1:=n.1;have hbF1:=m.1;have hbN1:=j.1;clear n m j;obtain⟨c1,c2⟩:=M;obtain⟨c3,c4⟩:=T;obtain⟨c5,c6⟩:=S;have W:=a.out.below;have hz:=W.size;go_wp2_with fail;refine (of_c xA h xc _ Ka Eq.out).mono ?_;rintro e w2 ⟨rfl,y⟩;rw[HE.out];have g1:=a.out.res.up y q7;have g2:=R.out.up y o7;clear F O N q4 q5 q6 X V Y o4 o5 o6 h2;obtain⟨F,O,N,q4,q5,q6,q7'⟩:=g1.c3;obtain⟨X,V,Y,o4,o5,o6,o7'⟩:=g2.c3;have hb2:=W.trans (y.mono hz);by_cases H:r=0
  .subst H;have G1:=hid g1;have G2:=hid g2;clear g1 g2;go_wp2;go_roundw
   case rel =>
    refine⟨k+1,by omega,by go_num,?_,Kb.out,?_,?_⟩
    . (repeat' (first | with_reducible assumption | with_reducible exact kqk _ _ | (with_reducible refine aW ?_ _) | (with_reducible refine kjh ?_) | (with_reducible refine kji ?_ ?_ _) | (with_reducible refine kq7 ?_ ?_ _)))<;>(first | exact kqa _ | exact kz4 _ | omega | (dsimp only;omega) | ((repeat (first | (with_reducible refine aS ?_) | (with_reducible refine fp ?_) | (with_reducible refine dj ?_)));first | exact kqa _ | omega))
    .exact (((G1.out.far (by dsimp only;omega) _).far (by dsimp only;omega) _).far (by dsimp only;omega) _).alloc _
    rw[HS.out,HF.out,HN.out];exact (((G2.out.set_ 0 _).set_ 1 _).set_ 2 _).alloc _
   case measure=>simp[intOf];omega
  have hn1:(r==0)=false:=by rw[kqi];exact H
  have hn2:(r != 0)=true:=by rw[kqv];exact H
  have q:=hid (Q.out H);clear H;go_wp2_with fail;refine kqo (v:=.tuple #[gy 0 0 0,.int .i64 r]) (by simp[results,results59,go_sem,gy,F,O,N,q7']) rfl ⟨by rw[q.out],?_⟩;(repeat' (first | with_reducible assumption | with_reducible exact kqk _ _ | (with_reducible refine aW ?_ _) | (with_reducible refine kjh ?_) | (with_reducible refine kji ?_ ?_ _) | (with_reducible refine kq7 ?_ ?_ _)))<;>(first | exact kqa _ | exact kz4 _ | omega | (dsimp only;omega) | ((repeat (first | (with_reducible refine aS ?_) | (with_reducible refine fp ?_) | (with_reducible refine dj ?_)));first | exact kqa _ | omega))
 have:k=cs.length:=by omega
 subst this;have W:=a.out.below;have hz:=W.size;have o:=sL (L:=chA cs) (by have:=a.out.err;rwa [<-qj cs,kzl] at this);have d:=a.out.out;rw[<-qj cs,kzl] at d;obtain⟨F,O,N,q4,q5,q6,q7⟩:=a.out.res.c3;generalize tot ofS (chA cs)=s0 at *;generalize tot ofF (chA cs)=f0 at *;generalize tot ofN (chA cs)=n0 at *;have G:=hid o;obtain⟨X,V,Y,o4,o5,o6,o7⟩:=d.c3;clear o d;go_wp2_with fail;refine kqo (v:=.tuple #[gy s0 f0 n0,.int .i64 0]) (by simp[results,results59,go_sem,gy,F,O,N]) rfl ⟨by rw[G.out],?_⟩;(repeat' (first|with_reducible assumption|with_reducible exact kqk _ _ | (with_reducible refine aW ?_ _) | (with_reducible refine kjh ?_) | (with_reducible refine kji ?_ ?_ _) | (with_reducible refine kq7 ?_ ?_ _)))<;>(first|exact kqa _|exact kz4 _|omega | (dsimp only;omega) | ((repeat (first | (with_reducible refine aS ?_) | (with_reducible refine fp ?_) | (with_reducible refine dj ?_)));first|exact kqa _|omega))
theorem sum_n(A:Option Addr)(cs:List Ch)(c n:Nat)(w:World)(hn:cs.length=n)(hm:n<=4294967296)(hr:RdC w w.heap.size A cs)(hok:∀x∈cs,x.l.length<=maxLen/\RdE w w.heap.size x.A x.l):
 Calls prog 59 #[.slice A n c] w λe w'=>e=.returned (jX (chA cs))/\Below w.heap.size w w':=by subst hn;exact Eb A cs c w hm hr hok
def qr (n:Int):Int:=if n<256 then 2 else if 2048<n then 2 else if n%8=0 then 0 else 2
def bdN (n:Int):Int:=if qr n=0 then 20*(n-128)+200 else 0
def ul (n:Int):Value:=.tuple #[gy (bdN n) (bdN n) (bdN n),.int .i64 (qr n)]
theorem nk{n:Int}(h:qr n=2):ul n=.tuple #[gy 0 0 0,.int .i64 2]:=by simp[ul,bdN,h]
theorem Id(n:Int)(w:World):
 Calls prog 43 #[.int .i64 n] w λe w'=>e=.returned (ul n)/\Below w.heap.size w w':=by
 by_cases b:n<256
 .have H:=hid (nk (n:=n) (by simp[qr,b]));go_enter func43,ntmps43;go_wp2;exact kqo (v:=.tuple #[gy 0 0 0,.int .i64 2]) (by simp[results,results43,go_sem,gy]) rfl ⟨by rw[H.out],(kqk _ _).alloc (kqa _) _⟩
 by_cases c:2048<n
 .have H:=hid (nk (n:=n) (by simp[qr,c]));have d:256<=n:=by omega
  clear b;go_enter func43,ntmps43;go_wp2;exact kqo (v:=.tuple #[gy 0 0 0,.int .i64 2]) (by simp[results,results43,go_sem,gy]) rfl ⟨by rw[H.out],(kqk _ _).alloc (kqa _) _⟩
 have d:256<=n:=by omega
 have h4:n<=2048:=by omega
 by_cases a:n%8=0
 .have H:Hid (ul n=.tuple #[gy (20*(n-128)+200) (20*(n-128)+200) (20*(n-128)+200),.int .i64 0]):=by simp[Hid,ul,bdN,qr,b,c,a]
  clear b c;go_enter func43,ntmps43;go_wp2;exact kqo (v:=.tuple #[gy (20*(n-128)+200) (20*(n-128)+200) (20*(n-128)+200),.int .i64 0]) (by simp[results,results43,go_sem,gy]) rfl ⟨by rw[H.out],(kqk _ _).alloc (kqa _) _⟩
 have H:=hid (nk (n:=n) (by simp[qr,a]));have h6:(n%8==0)=false:=by rw[kqi];exact a
 have h7:(n%8 != 0)=true:=by rw[kqv];exact a
 clear b c a;go_enter func43,ntmps43;go_wp2;exact kqo (v:=.tuple #[gy 0 0 0,.int .i64 2]) (by simp[results,results43,go_sem,gy]) rfl ⟨by rw[H.out],(kqk _ _).alloc (kqa _) _⟩
end Go.Proofs.YtpcajamacpbjcaaGreat
