/- Texts laid together: EffP EffQ Eff SumP Sum Bnd. -/
import Derived.Test.YtpcajamacpbjcaaGreatZKPlain
set_option maxHeartbeats 16000000
set_option maxRecDepth 100000
set_option linter.all false
namespace Go.Proofs.YtpcajamacpbjcaaGreat
open Lib (hid)
variable {ad:List Int}{H k n x:Nat}{w wr:World}
open Go.Proofs.Tryz
def ce (ad:List Int) (x:Int):Nat->Bool
 | 0=>false
 | i+1=>ce ad x i||((ad[i]?.getD 0)/8==x/8)
def bY (ad:List Int) (x:Int):Nat->Bool
 | 0=>false
 | i+1=>bY ad x i||((ad[i]?.getD 0)==x)
def gR (ad:List Int):Nat->Bool
 | 0=>true
 | k+1=>gR ad k&&(decide (0<=ad[k]?.getD 0)&&decide (ad[k]?.getD 0<2048) && !bY ad (ad[k]?.getD 0) k)
def hU (ad:List Int):Nat->Nat
 | 0=>0
 | k+1=>hU ad k+if ce ad (ad[k]?.getD 0) k then 0 else 1
theorem mW(ad:List Int)(k:Nat):hU ad k<=k:=by
 induction k with
 | zero=>simp[hU]
 | succ k ih=>simp only[hU];split<;>omega
theorem wv(h:gR ad n=true)(hk:k<=n):gR ad k=true:=by
 induction n with
 | zero =>
  have:k=0:=by omega
  subst this;exact h
 | succ n ih =>
  rcases kq6 k (n+1) with a|a
  .simp only[gR,kqo] at h;exact ih h.1 (by omega)
  have:k=n+1:=by omega
  subst this;exact h
theorem rO(h:gR ad k=false)(hk:k<=n):gR ad n=false:=by
 cases a:gR ad n with
 | false=>rfl
 | true=>rw[wv a hk] at h;cases h
def iF (ad:List Int):Int:=if ad.length=0 then 0 else 3*ad.length+2
def fS (ad:List Int):Int:=if ad.length=0 then 0 else (2*ad.length+7)/8+hU ad ad.length+2
def iO (ad:List Int):Int:=if ad.length=0 then 0 else 4
def gV (ad:List Int):Int:=if 32<ad.length then 4 else if gR ad ad.length then 0 else 2
def ofS (ad:List Int):Int:=if gV ad=0 then iF ad else 0
def ofF (ad:List Int):Int:=if gV ad=0 then fS ad else 0
def ofN (ad:List Int):Int:=if gV ad=0 then iO ad else 0
theorem wi(h:32<ad.length):gV ad=4:=by simp[gV,h]
theorem Bf(h:ad.length<=32)(hk:gR ad k=false)(hn:k<=ad.length):gV ad=2:=by
 have:¬ 32<ad.length:=by omega
 simp[gV,this,rO hk hn]
theorem CO(h:ad.length<=32)(hk:gR ad ad.length=true):gV ad=0:=by
 have:¬ 32<ad.length:=by omega
 simp[gV,this,hk]
theorem re(h:¬ (0<=ad[k]?.getD 0/\ad[k]?.getD 0<2048)):gR ad (k+1)=false:=by
 simp only[gR,kk0,kqh];by_cases a:0<=ad[k]?.getD 0
 .exact .inr (.inl (.inr (λb=>h ⟨a,b⟩)))
 exact .inr (.inl (.inl a))
theorem od(h:gR ad k=true)(h0:0<=ad[k]?.getD 0)(h1:ad[k]?.getD 0<2048)(h2:bY ad (ad[k]?.getD 0) k=false):gR ad (k+1)=true:=by simp[gR,h,h0,h1,h2]
theorem nj(ad:List Int)(x y:Int)(h:x/8=y/8)(k:Nat):ce ad x k=ce ad y k:=by
 induction k with
 | zero=>rfl
 | succ k ih=>simp only[ce,ih,h]
open Go.RowKit
def je (s f n:Int):Value:=.agg #[.int .i64 s,.int .i64 f,.int .i64 n]
def jP (ad:List Int):Value:=.tuple #[je (ofS ad) (ofF ad) (ofN ad),.int .i64 (gV ad)]
theorem oG{e:Int}(h:gV ad=e)(h0:e≠0):jP ad=.tuple #[je 0 0 0,.int .i64 e]:=by simp[jP,ofS,ofF,ofN,h,h0]
theorem yZ(h:gV ad=0):jP ad=.tuple #[je (iF ad) (fS ad) (iO ad),.int .i64 0]:=by simp[jP,ofS,ofF,ofN,h]
def jj:Array Value:=Array.replicate 2048 (.bool false)
def mN:Array Value:=Array.replicate 256 (.bool false)
theorem CF(w:World):(zeroValue 155).run prog w=.ok (.agg jj) w:=by kernel_rfl
theorem Gz(w:World):(zeroValue 156).run prog w=.ok (.agg mN) w:=by kernel_rfl
theorem Hq(w:World):(w.alloc (.cells jj 155)).rowIs w.heap.size 155 2048 (λ_=>.bool false):=
 ⟨jj,heap_alloc_new w _,by simp[jj],λi a=>by simp[jj,a]⟩
theorem row256(w:World):(w.alloc (.cells mN 156)).rowIs w.heap.size 156 256 (λ_=>.bool false):=
 ⟨mN,heap_alloc_new w _,by simp[mN],λi a=>by simp[mN,a]⟩
theorem Fg(x gl gs:Nat)(w:World)(hx:x<2048)(hc:w.cell? ⟨gl,x/8,none⟩=some (.bool true)):
 Calls prog 88 #[.int .i64 (x:Int),.pointer (some ⟨gl,0,none⟩),.pointer (some ⟨gs,0,none⟩)] w λe w'=>e=.returned (.tuple #[])/\w=w':=by go_enter func88,ntmps88;go_wp2;go_end0;exact⟨rfl,rfl⟩
theorem Cw(x gl gs n:Nat)(w:World)(hx:x<2048)(hn:n<=32)(hg:gl≠gs)(hc:w.cell? ⟨gl,x/8,none⟩=some (.bool false))(hf:w.frozen? ⟨gl,x/8,none⟩=false)(hs:w.cell? ⟨gs,0,none⟩=some (.int .i64 (n:Int)))(hsf:w.frozen? ⟨gs,0,none⟩=false):
 Calls prog 88 #[.int .i64 (x:Int),.pointer (some ⟨gl,0,none⟩),.pointer (some ⟨gs,0,none⟩)] w λe w'=>e=.returned (.tuple #[]) /\
  (w.setCell ⟨gl,x/8,none⟩ (.bool true)).setCell ⟨gs,0,none⟩ (.int .i64 ((n:Int)+1))=w':=by have hg':gs≠gl:=λh=>hg h.symm;go_enter func88,ntmps88;go_wp2;go_end0;exact⟨rfl,rfl⟩
structure OfRel (H:Nat) (ad:List Int) (k:Nat) (w wr:World):Prop where
 below:Below H w wr
 res:wr.rowIs H 61 3 (λ_=>.int .i64 0)
 words:wr.rowIs (H+1) 155 2048 (λi=>.bool (bY ad (i:Int) k))
 lines:wr.rowIs (H+1+1) 156 256 (λi=>.bool (ce ad (8*(i:Int)) k))
 sev:wr.rowIs (H+1+1+1) 3 1 (λ_=>.int .i64 (hU ad k:Nat))
theorem OfRel.start(w:World)(ad:List Int):OfRel w.heap.size ad 0 w ((((w.alloc (.cells #[.int .i64 0,.int .i64 0,.int .i64 0] 61)).alloc (.cells jj 155)).alloc (.cells mN 156)).alloc (.cells #[.int .i64 0] 3)):=by
 have c:=Hq (w.alloc (.cells #[.int .i64 0,.int .i64 0,.int .i64 0] 61));have b:=row256 ((w.alloc (.cells #[.int .i64 0,.int .i64 0,.int .i64 0] 61)).alloc (.cells jj 155));simp only[kqm] at c b;refine⟨?_,?_,?_,?_,?_⟩
 . (repeat' (first | with_reducible assumption | with_reducible exact kqk _ _ | (with_reducible refine bv ?_ _) | (with_reducible refine kjc ?_) | (with_reducible refine kje ?_ ?_ _) | (with_reducible refine kzi ?_ ?_ _)))<;>(first | exact kqa _ | exact kxi _ | omega | (dsimp only;omega) | ((repeat (first | (with_reducible refine aY ?_) | (with_reducible refine fF ?_) | (with_reducible refine dh ?_)));first | exact kqa _ | omega))
 .exact ((World.rowIs.alloc (⟨#[.int .i64 0,.int .i64 0,.int .i64 0],heap_alloc_new w _,rfl,λi a=>by
   match i,a with
   | 0,_=>rfl
   | 1,_=>rfl
   | 2,_=>rfl⟩) _).alloc _).alloc _
 .exact (c.alloc _).alloc _
 .exact b.alloc _
 have d:=heap_alloc_new (((w.alloc (.cells #[.int .i64 0,.int .i64 0,.int .i64 0] 61)).alloc (.cells jj 155)).alloc (.cells mN 156)) (.cells #[.int .i64 0] 3);simp only[kqm] at d;exact⟨#[.int .i64 0],d,rfl,λi a=>by
  match i,a with
  | 0,_=>rfl⟩
theorem OfRel.wstep(h:OfRel H ad k w wr)(hx:ad[k]?.getD 0=(x:Int)):
 (wr.setCell ⟨H+1,x,none⟩ (.bool true)).rowIs (H+1) 155 2048 (λi=>.bool (bY ad (i:Int) (k+1))):=
 (h.words.set x (.bool true)).congr λi _=>by
  simp only[bY,hx]
  by_cases e:i=x
  .subst e;simp
  .have:((x:Int)==(i:Int))=false:=by rw[kqj];omega
   simp[e,this]
theorem OfRel.step_new(h:OfRel H ad k w wr)(hx:ad[k]?.getD 0=(x:Int))(hl:ce ad (8*((x/8:Nat):Int)) k=false)(o:Obj):
 OfRel H ad (k+1) w ((((wr.setCell ⟨H+1,x,none⟩ (.bool true)).setCell ⟨H+1+1,x/8,none⟩ (.bool true)).setCell ⟨H+1+1+1,0,none⟩ (.int .i64 ((hU ad k:Nat)+1))).alloc o):=by
 have hz3:=h.sev.lt;have hB:=h.below;refine⟨?_,?_,?_,?_,?_⟩
 . (repeat' (first | with_reducible assumption | with_reducible exact kqk _ _ | (with_reducible refine bv ?_ _) | (with_reducible refine kjc ?_) | (with_reducible refine kje ?_ ?_ _) | (with_reducible refine kzi ?_ ?_ _)))<;>(first | exact kqa _ | exact kxi _ | omega | (dsimp only;omega) | ((repeat (first | (with_reducible refine aY ?_) | (with_reducible refine fF ?_) | (with_reducible refine dh ?_)));first | exact kqa _ | omega))
 .have b:=h.res;(repeat' (first | with_reducible exact b | (with_reducible refine World.rowIs.alloc ?_ _) | (with_reducible refine World.rowIs.setOther ?_ ?_ _) | (with_reducible refine iM ?_ _)))<;>(dsimp only;omega)
 .have b:=h.wstep hx;(repeat' (first | with_reducible exact b | (with_reducible refine World.rowIs.alloc ?_ _) | (with_reducible refine World.rowIs.setOther ?_ ?_ _) | (with_reducible refine iM ?_ _)))<;>(dsimp only;omega)
 .refine (World.rowIs.setOther (World.rowIs.congr ((World.rowIs.setOther h.lines (a:=⟨H+1,x,none⟩) (by dsimp only;omega) _).set (x/8) (.bool true)) ?_) (by dsimp only;omega) _).alloc _;intro i c;simp only[ce,hx];by_cases e:i=x/8
  .subst e;have:((x:Int)/8==8*((x/8:Nat):Int)/8)=true:=by rw[kqw];omega
   rw[this,if_pos rfl,kvh]
  have:((x:Int)/8==8*(i:Int)/8)=false:=by rw[kqj];omega
  rw[this,if_neg e,kkn]
 refine (World.rowIs.congr ((World.rowIs.setOther (World.rowIs.setOther h.sev (a:=⟨H+1,x,none⟩) (by dsimp only;omega) _) (a:=⟨H+1+1,x/8,none⟩) (by dsimp only;omega) _).set 0 _) ?_).alloc _;intro i c;have e:i=0:=by omega
 subst e;have:ce ad (x:Int) k=false:=by rw[nj ad (x:Int) (8*((x/8:Nat):Int)) (by omega)];exact hl
 simp[hU,hx,this]
theorem OfRel.step_old(h:OfRel H ad k w wr)(hx:ad[k]?.getD 0=(x:Int))(hl:ce ad (8*((x/8:Nat):Int)) k=true)(o:Obj):
 OfRel H ad (k+1) w ((wr.setCell ⟨H+1,x,none⟩ (.bool true)).alloc o):=by
 have hz3:=h.sev.lt;have hB:=h.below;refine⟨?_,?_,?_,?_,?_⟩
 . (repeat' (first | with_reducible assumption | with_reducible exact kqk _ _ | (with_reducible refine bv ?_ _) | (with_reducible refine kjc ?_) | (with_reducible refine kje ?_ ?_ _) | (with_reducible refine kzi ?_ ?_ _)))<;>(first | exact kqa _ | exact kxi _ | omega | (dsimp only;omega) | ((repeat (first | (with_reducible refine aY ?_) | (with_reducible refine fF ?_) | (with_reducible refine dh ?_)));first | exact kqa _ | omega))
 .have b:=h.res;(repeat' (first | with_reducible exact b | (with_reducible refine World.rowIs.alloc ?_ _) | (with_reducible refine World.rowIs.setOther ?_ ?_ _) | (with_reducible refine iM ?_ _)))<;>(dsimp only;omega)
 .have b:=h.wstep hx;(repeat' (first | with_reducible exact b | (with_reducible refine World.rowIs.alloc ?_ _) | (with_reducible refine World.rowIs.setOther ?_ ?_ _) | (with_reducible refine iM ?_ _)))<;>(dsimp only;omega)
 .refine (World.rowIs.congr (World.rowIs.setOther h.lines (a:=⟨H+1,x,none⟩) (by dsimp only;omega) _) ?_).alloc _;intro i c;simp only[ce,hx];by_cases e:i=x/8
  .rw[e,hl,kkj]
  have:((x:Int)/8==8*(i:Int)/8)=false:=by rw[kqj];omega
  rw[this,kkn]
 refine (World.rowIs.congr (World.rowIs.setOther h.sev (a:=⟨H+1,x,none⟩) (by dsimp only;omega) _) ?_).alloc _;intro i c;have e:i=0:=by omega
 subst e;have:ce ad (x:Int) k=true:=by rw[nj ad (x:Int) (8*((x/8:Nat):Int)) (by omega)];exact hl
 simp[hU,hx,this]
theorem of_c(A:Option Addr)(l:List En)(c:Nat)(w:World)(hm:l.length<=9223372036854775807)(hr:RdE w w.heap.size A l):
 Calls prog 44 #[.slice A l.length c] w λe w'=>e=.returned (jP (aF l))/\Below w.heap.size w w':=by
 have HR:=hid hr;clear hr;by_cases h:32<l.length
 .have f:=hid (oG (wi (ad:=aF l) (by rw[aZ];exact h)) (by omega));go_enter func44,ntmps44;go_wp2_with fail;exact kqr (v:=.tuple #[je 0 0 0,.int .i64 4]) (by simp[results,results44,go_sem,je]) rfl ⟨by rw[f.out],(kqk _ _).alloc (kqa _) _⟩
 have Q:l.length<=32:=by omega
 clear h;have T:=CF;have O:=Gz;go_enter func44,ntmps44;go_wp2_with fail;clear T O;go_loopw [19] (λi wr=>∃k:Nat,k<=l.length/\i=.int .i64 k/\gR (aF l) k=true/\OfRel w.heap.size (aF l) k w wr) (λi _=>l.length-(intOf i).toNat)
 case atStart =>
  exact⟨0,kqy _,rfl,rfl,OfRel.start w _⟩
 obtain⟨k,hk,rfl,R,hR⟩:=hrel;have K:=hid R;clear R;have d:=hid hR;clear hR;have y:=d.out.res.lt;have T:=d.out.words.lt;have O:=d.out.lines.lt;have hz3:=d.out.sev.lt;have u:=d.out.res.cell (i:=0) (by omega);have q:=d.out.res.cell (i:=1) (by omega);have s:=d.out.res.cell (i:=2) (by omega);have hf0:=d.out.res.frozen 0;have hf1:=d.out.res.frozen 1;have hf2:=d.out.res.frozen 2;by_cases F:k<l.length
 .obtain ⟨b,S,rfl,hb,h2,V⟩:=HR.out.at_ F;have z:=hid (ey l k F);replace h2:=(d.out.below.cell (p:=⟨b,S+k*2,none⟩) hb).trans h2;replace V:=(d.out.below.cell (p:=⟨b,S+k*2+1,none⟩) hb).trans V;generalize hx:l[k].a=x at *;generalize hv:l[k].v=v at *;have HX:=hid hx;have HV:=hid hv;clear hx hv;have hz4:b<wr.heap.size:=by omega
  have f:∀w':World,gR (aF l) (k+1)=false->Below w.heap.size w w' ->
   Ending.returned (.tuple #[je 0 0 0,.int .i64 2])=.returned (jP (aF l))/\Below w.heap.size w w':=
   λ_ h1 V=>⟨by rw[oG (Bf (by rw[aZ];exact Q) h1 (by rw[aZ];exact F)) (by omega)],V⟩
  have C:=hid f;clear f;have hB:=d.out.below;by_cases Z:x<0
  .have t:=hid (re (ad:=aF l) (k:=k) (by rw[z.out];omega));go_wp2_with fail;refine kqr (v:=.tuple #[je 0 0 0,.int .i64 2]) (by simp[results,results44,go_sem,je,u,q,s,y]) rfl (C.out _ t.out ?_);(repeat' (first | with_reducible assumption | with_reducible exact kqk _ _ | (with_reducible refine bv ?_ _) | (with_reducible refine kjc ?_) | (with_reducible refine kje ?_ ?_ _) | (with_reducible refine kzi ?_ ?_ _)))<;>(first | exact kqa _ | exact kxi _ | omega | (dsimp only;omega) | ((repeat (first | (with_reducible refine aY ?_) | (with_reducible refine fF ?_) | (with_reducible refine dh ?_)));first | exact kqa _ | omega))
  obtain⟨x,rfl⟩:=kqz (show 0<=x by omega);clear Z;by_cases Y:2048<=x
  .have t:=hid (re (ad:=aF l) (k:=k) (by rw[z.out];omega));go_wp2_with fail;refine kqr (v:=.tuple #[je 0 0 0,.int .i64 2]) (by simp[results,results44,go_sem,je,u,q,s,y]) rfl (C.out _ t.out ?_);(repeat' (first | with_reducible assumption | with_reducible exact kqk _ _ | (with_reducible refine bv ?_ _) | (with_reducible refine kjc ?_) | (with_reducible refine kje ?_ ?_ _) | (with_reducible refine kzi ?_ ?_ _)))<;>(first | exact kqa _ | exact kxi _ | omega | (dsimp only;omega) | ((repeat (first | (with_reducible refine aY ?_) | (with_reducible refine fF ?_) | (with_reducible refine dh ?_)));first | exact kqa _ | omega))
  have I:x<2048:=by omega
  clear Y;have P:=d.out.words.cell (i:=x) I;have hwf:=d.out.words.frozen x;have N:=d.out.lines.cell (i:=x/8) (by omega);have hlf:=d.out.lines.frozen (x/8);have M:=d.out.sev.cell (i:=0) (by omega);have X:=d.out.sev.frozen 0;cases o:bY (aF l) x k
  .have L:=hid o;rw[o] at P;clear o;cases j:ce (aF l) (8*((x/8:Nat):Int)) k
   .rw[j] at N;have J:=hid j;clear j;have G:=mW (aF l) k;go_wp2_with fail;refine (Cw x (w.heap.size+1+1) (w.heap.size+1+1+1) (hU (aF l) k) _ I (by omega) (by omega) (by go_simp) (by go_simp) (by go_simp) (by go_simp)).mono ?_;rintro e w1 ⟨rfl,rfl⟩;go_wp2;go_roundw
    case rel =>
     exact⟨k+1,by omega,by go_num,od K.out (by rw[z.out];omega) (by rw[z.out];omega) (by rw[z.out];exact L.out),d.out.step_new z.out J.out _⟩
    case measure=>simp[intOf];omega
   rw[j] at N;have J:=hid j;clear j;go_wp2_with fail;refine (Fg x (w.heap.size+1+1) (w.heap.size+1+1+1) _ I (by go_simp)).mono ?_;rintro e w1 ⟨rfl,rfl⟩;go_wp2;go_roundw
   case rel =>
    exact⟨k+1,by omega,by go_num,od K.out (by rw[z.out];omega) (by rw[z.out];omega) (by rw[z.out];exact L.out),d.out.step_old z.out J.out _⟩
   case measure=>simp[intOf];omega
  rw[o] at P;have t:=hid (show gR (aF l) (k+1)=false by simp[gR,z.out,o]);clear o;go_wp2_with fail;refine kqr (v:=.tuple #[je 0 0 0,.int .i64 2]) (by simp[results,results44,go_sem,je,u,q,s,y]) rfl (C.out _ t.out ?_);(repeat' (first | with_reducible assumption | with_reducible exact kqk _ _ | (with_reducible refine bv ?_ _) | (with_reducible refine kjc ?_) | (with_reducible refine kje ?_ ?_ _) | (with_reducible refine kzi ?_ ?_ _)))<;>(first | exact kqa _ | exact kxi _ | omega | (dsimp only;omega) | ((repeat (first | (with_reducible refine aY ?_) | (with_reducible refine fF ?_) | (with_reducible refine dh ?_)));first | exact kqa _ | omega))
 have:k=l.length:=by omega
 subst this;have M := d.out.sev.cell (i := 0) (by omega);have X := d.out.sev.frozen 0;have G := mW (aF l) l.length;have W:Hid (jP (aF l)=.tuple #[je (iF (aF l)) (fS (aF l)) (iO (aF l)),.int .i64 0]):=
  yZ (CO (by rw[aZ];exact Q) (by rw[aZ];exact K.out))
 have hB:=d.out.below;have H:∀w':World,Below w.heap.size w w'->Ending.returned (.tuple #[je (iF (aF l)) (fS (aF l)) (iO (aF l)),.int .i64 0])=.returned (jP (aF l))/\Below w.heap.size w w':=λ_ h=>⟨by rw[W.out],h⟩;have g:=hid H;clear H F;by_cases B:l.length=0
 .obtain ⟨n,hn⟩:∃n,n=l.length:=⟨_,rfl⟩;have U:hU (aF l) l.length=0:=by rw[B];rfl
  have r:iF (aF l)=0:=by simp[iF,aZ,B]
  have E:fS (aF l)=0:=by simp[fS,aZ,B]
  have D:iO (aF l)=0:=by simp[iO,aZ,B]
  rw[r,E,D] at g;rw[U] at M;clear r E D U W G;rw[<-hn] at B;have H0:=hid B;rw[<-hn,B];clear B hn;go_wp2_with fail;refine kqr (v:=.tuple #[je 0 0 0,.int .i64 0]) (by simp[results,results44,go_sem,je,u,q,s,y]) rfl (g.out _ ?_);(repeat' (first | with_reducible assumption | with_reducible exact kqk _ _ | (with_reducible refine bv ?_ _) | (with_reducible refine kjc ?_) | (with_reducible refine kje ?_ ?_ _) | (with_reducible refine kzi ?_ ?_ _)))<;>(first | exact kqa _ | exact kxi _ | omega | (dsimp only;omega) | ((repeat (first | (with_reducible refine aY ?_) | (with_reducible refine fF ?_) | (with_reducible refine dh ?_)));first | exact kqa _ | omega))
 have r:iF (aF l)=3*l.length+2:=by simp[iF,aZ,B]
 have E:fS (aF l)=(2*l.length+8-1)/8+hU (aF l) l.length+2:=by rw[show (2*(l.length:Int)+8-1)=2*l.length+7 from by omega];simp[fS,aZ,B]
 have D:iO (aF l)=4:=by simp[iO,aZ,B]
 rw[r,E,D] at g;clear r E D W;generalize hU (aF l) l.length=m at *;have hne:(((3*(l.length:Int)+2==2))=false):=by rw[kqj];omega
 go_wp2_with fail;refine kqr (v:=.tuple #[je (3*l.length+2) ((2*l.length+8-1)/8+m+2) 4,.int .i64 0]) (by simp[results,results44,go_sem,je,u,q,s,y]) rfl (g.out _ ?_);(repeat' (first | with_reducible assumption | with_reducible exact kqk _ _ | (with_reducible refine bv ?_ _) | (with_reducible refine kjc ?_) | (with_reducible refine kje ?_ ?_ _) | (with_reducible refine kzi ?_ ?_ _)))<;>(first | exact kqa _ | exact kxi _ | omega | (dsimp only;omega) | ((repeat (first | (with_reducible refine aY ?_) | (with_reducible refine fF ?_) | (with_reducible refine dh ?_)));first | exact kqa _ | omega))
def ew:List (List Int)->Int
 | []=>0
 | c::cs=>if gV c=0 then ew cs else gV c
def tot (f:List Int->Int):List (List Int)->Int
 | []=>0
 | c::cs=>f c+tot f cs
theorem ld(a b:List (List Int)):ew (a++b)=if ew a=0 then ew b else ew a:=by
 induction a with
 | nil=>simp[ew]
 | cons c a ih =>
  simp only[kzg,ew];by_cases h:gV c=0
  .simp[h,ih]
  simp[h]
theorem vH(f:List Int->Int)(a b:List (List Int)):tot f (a++b)=tot f a+tot f b:=by
 induction a with
 | nil=>simp[tot]
 | cons c a ih=>simp only[kzg,tot,ih];omega
theorem yF(f:List Int->Int)(m:Int)(hf:∀c,0<=f c/\f c<=m)(a:List (List Int)):0<=tot f a/\tot f a<=m*a.length:=by
 induction a with
 | nil=>simp[tot]
 | cons c a ih =>
  have:=hf c;simp only[tot,kq1];have e:m*((a.length+1:Nat):Int)=m*a.length+m:=by rw[kjk,Int.mul_add];simp
  rw[e];omega
theorem qJ(h:gV ad=0):ad.length<=32/\gR ad ad.length=true:=by
 unfold gV at h;split at h
 .simp at h
 split at h
 .exact ⟨by omega,by assumption⟩
 simp at h
theorem Es(ad:List Int):0<=ofS ad/\ofS ad<=98:=by
 unfold ofS;split
 .have:=(qJ ‹_›).1;unfold iF;split<;>omega
 omega
theorem Ex(ad:List Int):0<=ofF ad/\ofF ad<=98:=by
 unfold ofF;split
 .have:=(qJ ‹_›).1;have:=mW ad ad.length;unfold fS;split<;>omega
 omega
theorem Ez(ad:List Int):0<=ofN ad/\ofN ad<=98:=by
 unfold ofN;split
 .unfold iO;split<;>omega
 omega
theorem mK{cs:List (List Int)}(hk:k<cs.length)(h:ew (cs.take k)=0):ew (cs.take (k+1))=gV cs[k]:=by
 rw[kqn hk,ld,if_pos h];simp only[ew];split
 .simp[*]
 rfl
theorem pY(f:List Int->Int){cs:List (List Int)}(hk:k<cs.length):tot f (cs.take (k+1))=tot f (cs.take k)+f cs[k]:=by rw[kqn hk,vH];simp[tot]
theorem wc{cs:List (List Int)}(h:ew (cs.take k)≠0):ew cs=ew (cs.take k):=by have:=ld (cs.take k) (cs.drop k);rw[kz9,if_neg h] at this;exact this
def smS (cs:List (List Int)):Int:=if ew cs=0 then tot ofS cs else 0
def smF (cs:List (List Int)):Int:=if ew cs=0 then tot ofF cs else 0
def smN (cs:List (List Int)):Int:=if ew cs=0 then tot ofN cs else 0
def chA (cs:List Ch):List (List Int):=cs.map λx=>aF x.l
theorem oY(cs:List Ch):(chA cs).length=cs.length:=by simp[chA]
def jQ (L:List (List Int)):Value:=.tuple #[je (smS L) (smF L) (smN L),.int .i64 (ew L)]
theorem wI{L:List (List Int)}{r:Int}(hk:k<L.length)(h:ew (L.take k)=0)(hr:gV L[k]=r)(h0:r≠0):jQ L=.tuple #[je 0 0 0,.int .i64 r]:=by have a:=mK hk h;rw[hr] at a;have b:=wc (cs:=L) (k:=k+1) (by rw[a];exact h0);rw[a] at b;simp[jQ,smS,smF,smN,b,h0]
theorem rv{L:List (List Int)}(h:ew L=0):jQ L=.tuple #[je (tot ofS L) (tot ofF L) (tot ofN L),.int .i64 0]:=by simp[jQ,smS,smF,smN,h]
structure SumRel (H:Nat) (L:List (List Int)) (k:Nat) (w wr:World):Prop where
 below:Below H w wr
 err:ew (L.take k)=0
 res:Bx wr H 61 #[.int .i64 0,.int .i64 0,.int .i64 0]
 out:Bx wr (H+1) 61 #[.int .i64 (tot ofS (L.take k)),.int .i64 (tot ofF (L.take k)),.int .i64 (tot ofN (L.take k))]
theorem B4(A:Option Addr)(cs:List Ch)(c:Nat)(w:World)(hm:cs.length<=4294967296)(hr:RdC w w.heap.size A cs)(hok:∀x∈cs,x.l.length<=maxLen/\RdE w w.heap.size x.A x.l):
 Calls prog 59 #[.slice A cs.length c] w λe w'=>e=.returned (jQ (chA cs))/\Below w.heap.size w w':=by
 have HR:=hid hr;have HO:=hid hok;clear hr hok;go_enter func59,ntmps59;go_wp2_with fail;go_loopw [11] (λi wr=>∃k:Nat,k<=cs.length/\i=.int .i64 k/\SumRel w.heap.size (chA cs) k w wr) (λi _=>cs.length-(intOf i).toNat)
 case atStart =>
  refine⟨0,kqy _,rfl,?_,rfl,?_,?_⟩
  . (repeat' (first | with_reducible assumption | with_reducible exact kqk _ _ | (with_reducible refine bv ?_ _) | (with_reducible refine kjc ?_) | (with_reducible refine kje ?_ ?_ _) | (with_reducible refine kzi ?_ ?_ _)))<;>(first | exact kqa _ | exact kxi _ | omega | (dsimp only;omega) | ((repeat (first | (with_reducible refine aY ?_) | (with_reducible refine fF ?_) | (with_reducible refine dh ?_)));first | exact kqa _ | omega))
  .exact (Bx.new w _ _).alloc _
  have:=Bx.new (w.alloc (.cells #[.int .i64 0,.int .i64 0,.int .i64 0] 61)) 61 #[.int .i64 0,.int .i64 0,.int .i64 0];rw[kqm] at this;exact this
 obtain⟨k,hk,rfl,hR⟩:=hrel;have a:=hid hR;clear hR;by_cases s:k<cs.length
 .obtain ⟨b,off,rfl,hb,h2⟩:=HR.out.at_ s;replace h2:=(a.out.below.cell (p:=⟨b,off+k,none⟩) hb).trans h2;have g:k<(chA cs).length:=by rw[oY];exact s
  have U:=hid (HO.out cs[k] (kqp s));have R:(chA cs)[k]=aF cs[k].l:=by simp[chA]
  have O:=pY ofS g;have P:=pY ofF g;have N:=pY ofN g;have Z:=mK g a.out.err;have f:=λr=>wI (r:=r) g a.out.err;rw[R] at O P N Z f;generalize cs[k]=x at *;obtain⟨xA,xc,h⟩:=x;dsimp only at *;obtain⟨S,J,Q,q4,q5,q6,q7⟩:=a.out.res.c3;obtain⟨Y,X,V,o4,o5,o6,o7⟩:=a.out.out.c3;have m:=yF ofS 98 Es ((chA cs).take k);have n:=yF ofF 98 Ex ((chA cs).take k);have j:=yF ofN 98 Ez ((chA cs).take k);have hlk:(((chA cs).take k).length:Int)<=4294967296:=by rw[kq3,oY];omega
  have H:=Es (aF h);have T:=Ex (aF h);have K:=Ez (aF h);have Eq:h.length<=9223372036854775807:=by have:=U.out.1;unfold maxLen at this;exact this
  have Ja:=hid (U.out.2.up a.out.below a.out.below.size);obtain⟨s',t⟩:∃x,ofS (aF h)=x:=⟨_,rfl⟩;obtain⟨f',y⟩:∃x,ofF (aF h)=x:=⟨_,rfl⟩;obtain⟨n',q⟩:∃x,ofN (aF h)=x:=⟨_,rfl⟩;obtain⟨r,E⟩:=xq (gV (aF h));have HE:=hid (show jP (aF h)=.tuple #[.agg #[.int .i64 s',.int .i64 f',.int .i64 n'],.int .i64 r] by rw[jP,je,t,y,q,E]);rw[t] at O H;rw[y] at P T;rw[q] at N K;rw[E] at Z f;clear t y q E R;obtain⟨s0,C⟩:=xq (tot ofS ((chA cs).take k));obtain⟨f0,u⟩:=xq (tot ofF ((chA cs).take k));obtain⟨n0,B⟩:=xq (tot ofN ((chA cs).take k));rw[C] at O m Y;rw[u] at P n X;rw[B] at N j V;have HS:=hid O;have HF:=hid P;have HN:=hid N;have Jb:=hid Z;have M:=hid (f r rfl);have d:=a.out.out;rw[C,u,B] at d;have G:=hid d;clear O P N Z f C u B d;have hbS2:s0<=420906795008:=by have:=m.2;omega
  have hbF2:f0<=420906795008:=by have:=n.2;omega
  have hbN2:n0<=420906795008:=by have:=j.2;omega
  have hbS1:=m.1;have hbF1:=n.1;have hbN1:=j.1;clear m n j;obtain⟨c1,c2⟩:=H;obtain⟨c3,c4⟩:=T;obtain⟨c5,c6⟩:=K;have W:=a.out.below;have hz:=W.size;go_wp2_with fail;refine (of_c xA h xc _ Eq Ja.out).mono ?_;rintro e w2 ⟨rfl,z⟩;rw[HE.out];have g1:=a.out.res.up z q7;have g2:=G.out.up z o7;clear S J Q q4 q5 q6 Y X V o4 o5 o6 h2;obtain⟨S,J,Q,q4,q5,q6,q7'⟩:=g1.c3;obtain⟨Y,X,V,o4,o5,o6,o7'⟩:=g2.c3;have hb2:=W.trans (z.mono hz);by_cases I:r=0
  .subst I;have G1:=hid g1;have G2:=hid g2;clear g1 g2;go_wp2;go_roundw
   case rel =>
    refine⟨k+1,by omega,by go_num,?_,Jb.out,?_,?_⟩
    . (repeat' (first | with_reducible assumption | with_reducible exact kqk _ _ | (with_reducible refine bv ?_ _) | (with_reducible refine kjc ?_) | (with_reducible refine kje ?_ ?_ _) | (with_reducible refine kzi ?_ ?_ _)))<;>(first | exact kqa _ | exact kxi _ | omega | (dsimp only;omega) | ((repeat (first | (with_reducible refine aY ?_) | (with_reducible refine fF ?_) | (with_reducible refine dh ?_)));first | exact kqa _ | omega))
    .exact (((G1.out.far (by dsimp only;omega) _).far (by dsimp only;omega) _).far (by dsimp only;omega) _).alloc _
    rw[HS.out,HF.out,HN.out];exact (((G2.out.set_ 0 _).set_ 1 _).set_ 2 _).alloc _
   case measure=>simp[intOf];omega
  have hn1:(r==0)=false:=by rw[kqj];exact I
  have hn2:(r != 0)=true:=by rw[kqu];exact I
  have D:=hid (M.out I);clear I;go_wp2_with fail;refine kqr (v:=.tuple #[je 0 0 0,.int .i64 r]) (by simp[results,results59,go_sem,je,S,J,Q,q7']) rfl ⟨by rw[D.out],?_⟩;(repeat' (first | with_reducible assumption | with_reducible exact kqk _ _ | (with_reducible refine bv ?_ _) | (with_reducible refine kjc ?_) | (with_reducible refine kje ?_ ?_ _) | (with_reducible refine kzi ?_ ?_ _)))<;>(first | exact kqa _ | exact kxi _ | omega | (dsimp only;omega) | ((repeat (first | (with_reducible refine aY ?_) | (with_reducible refine fF ?_) | (with_reducible refine dh ?_)));first | exact kqa _ | omega))
 have:k=cs.length:=by omega
 subst this;have W:=a.out.below;have hz:=W.size;have o:=rv (L:=chA cs) (by have:=a.out.err;rwa [<-oY cs,kzf] at this);have d:=a.out.out;rw[<-oY cs,kzf] at d;obtain⟨S,J,Q,q4,q5,q6,q7⟩:=a.out.res.c3;generalize tot ofS (chA cs)=s0 at *;generalize tot ofF (chA cs)=f0 at *;generalize tot ofN (chA cs)=n0 at *;have F:=hid o;obtain⟨Y,X,V,o4,o5,o6,o7⟩:=d.c3;clear o d;go_wp2_with fail;refine kqr (v:=.tuple #[je s0 f0 n0,.int .i64 0]) (by simp[results,results59,go_sem,je,S,J,Q]) rfl ⟨by rw[F.out],?_⟩;(repeat' (first|with_reducible assumption|with_reducible exact kqk _ _ | (with_reducible refine bv ?_ _) | (with_reducible refine kjc ?_) | (with_reducible refine kje ?_ ?_ _) | (with_reducible refine kzi ?_ ?_ _)))<;>(first|exact kqa _|exact kxi _|omega | (dsimp only;omega) | ((repeat (first | (with_reducible refine aY ?_) | (with_reducible refine fF ?_) | (with_reducible refine dh ?_)));first|exact kqa _|omega))
theorem sum_n(A:Option Addr)(cs:List Ch)(c n:Nat)(w:World)(hn:cs.length=n)(hm:n<=4294967296)(hr:RdC w w.heap.size A cs)(hok:∀x∈cs,x.l.length<=maxLen/\RdE w w.heap.size x.A x.l):
 Calls prog 59 #[.slice A n c] w λe w'=>e=.returned (jQ (chA cs))/\Below w.heap.size w w':=by subst hn;exact B4 A cs c w hm hr hok
end Go.Proofs.YtpcajamacpbjcaaGreat
