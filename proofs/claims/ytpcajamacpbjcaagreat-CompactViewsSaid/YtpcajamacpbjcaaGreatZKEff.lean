/- Texts laid together: EffP EffQ Eff SumP Sum Bnd. -/
import Derived.Test.YtpcajamacpbjcaaGreatZKPlain
set_option maxHeartbeats 16000000
set_option maxRecDepth 100000
set_option linter.all false
namespace Go.Proofs.YtpcajamacpbjcaaGreat
open Lib (hid)
variable {ad:List Int}{H j k n x:Nat}{w wr:World}
open Go.Proofs.Tryz
def cq (ad:List Int) (x:Int):Nat->Bool
 | 0=>false
 | i+1=>cq ad x i||((ad[i]?.getD 0)/8==x/8)
def cd (ad:List Int) (x:Int):Nat->Bool
 | 0=>false
 | i+1=>cd ad x i||((ad[i]?.getD 0)==x)
def eU (ad:List Int):Nat->Bool
 | 0=>true
 | k+1=>eU ad k&&(decide (0<=ad[k]?.getD 0)&&decide (ad[k]?.getD 0<2048) && !cd ad (ad[k]?.getD 0) k)
def eZ (ad:List Int):Nat->Nat
 | 0=>0
 | k+1=>eZ ad k+if cq ad (ad[k]?.getD 0) k then 0 else 1
theorem jo(ad:List Int)(k:Nat):eZ ad k<=k:=by
 induction k with
 | zero=>simp[eZ]
 | succ k ih=>simp only[eZ];split<;>omega
theorem tU(h:eU ad n=true)(hk:k<n):0<=ad[k]?.getD 0/\ad[k]?.getD 0<2048/\cd ad (ad[k]?.getD 0) k=false:=by
 induction n with
 | zero=>omega
 | succ n ih =>
  simp only[eU,kqw,kzw,kxo] at h;rcases kq6 k n with a|a
  .exact ih h.1 a
  have:k=n:=by omega
  subst this;exact⟨h.2.1.1,h.2.1.2,h.2.2⟩
theorem wh(h:eU ad n=true)(hk:k<=n):eU ad k=true:=by
 induction n with
 | zero =>
  have:k=0:=by omega
  subst this;exact h
 | succ n ih =>
  rcases kq6 k (n+1) with a|a
  .simp only[eU,kqw] at h;exact ih h.1 (by omega)
  have:k=n+1:=by omega
  subst this;exact h
theorem rL(h:eU ad k=false)(hk:k<=n):eU ad n=false:=by
 cases a:eU ad n with
 | false=>rfl
 | true=>rw[wh a hk] at h;cases h
def fd (ad:List Int):Int:=if ad.length=0 then 0 else 3*ad.length+2
def dU (ad:List Int):Int:=if ad.length=0 then 0 else (2*ad.length+7)/8+eZ ad ad.length+2
def ff (ad:List Int):Int:=if ad.length=0 then 0 else 4
def gM (ad:List Int):Int:=if 32<ad.length then 4 else if eU ad ad.length then 0 else 2
def ofS (ad:List Int):Int:=if gM ad=0 then fd ad else 0
def ofF (ad:List Int):Int:=if gM ad=0 then dU ad else 0
def ofN (ad:List Int):Int:=if gM ad=0 then ff ad else 0
theorem oI(h:32<ad.length):gM ad=4:=by simp[gM,h]
theorem qi(h:ad.length<=32)(hk:eU ad k=false)(hn:k<=ad.length):gM ad=2:=by
 have:¬ 32<ad.length:=by omega
 simp[gM,this,rL hk hn]
theorem sO(h:ad.length<=32)(hk:eU ad ad.length=true):gM ad=0:=by
 have:¬ 32<ad.length:=by omega
 simp[gM,this,hk]
theorem ke(h:¬ (0<=ad[k]?.getD 0/\ad[k]?.getD 0<2048)):eU ad (k+1)=false:=by
 simp only[eU,kjg,kqc];by_cases a:0<=ad[k]?.getD 0
 .exact .inr (.inl (.inr (λb=>h ⟨a,b⟩)))
 exact .inr (.inl (.inl a))
theorem oQ{x:Int}(h:cd ad x j=true)(hk:j<=k):cd ad x k=true:=by
 induction k with
 | zero =>
  have:j=0:=by omega
  subst this;exact h
 | succ k ih =>
  rcases kq6 j (k+1) with a|a
  .simp[cd,ih (by omega)]
  have:j=k+1:=by omega
  subst this;exact h
theorem rB(hj:j<k)(h:ad[j]?.getD 0=ad[k]?.getD 0):eU ad (k+1)=false:=by have:cd ad (ad[k]?.getD 0) k=true:=oQ (j:=j+1) (by simp[cd,h]) (by omega);simp[eU,this]
theorem kZ(h:eU ad k=true)(h0:0<=ad[k]?.getD 0)(h1:ad[k]?.getD 0<2048)(h2:cd ad (ad[k]?.getD 0) k=false):eU ad (k+1)=true:=by simp[eU,h,h0,h1,h2]
theorem mU(ad:List Int)(x y:Int)(h:x/8=y/8)(k:Nat):cq ad x k=cq ad y k:=by
 induction k with
 | zero=>rfl
 | succ k ih=>simp only[cq,ih,h]
open Go.RowKit
def eD (s f n:Int):Value:=.agg #[.int .i64 s,.int .i64 f,.int .i64 n]
def fP (ad:List Int):Value:=.tuple #[eD (ofS ad) (ofF ad) (ofN ad),.int .i64 (gM ad)]
theorem jz{e:Int}(h:gM ad=e)(h0:e≠0):fP ad=.tuple #[eD 0 0 0,.int .i64 e]:=by simp[fP,ofS,ofF,ofN,h,h0]
theorem qB(h:gM ad=0):fP ad=.tuple #[eD (fd ad) (dU ad) (ff ad),.int .i64 0]:=by simp[fP,ofS,ofF,ofN,h]
def jd:Array Value:=Array.replicate 2048 (.bool false)
def ni:Array Value:=Array.replicate 256 (.bool false)
theorem Bi(w:World):(zeroValue 155).run prog w=.ok (.agg jd) w:=by kernel_rfl
theorem DO(w:World):(zeroValue 156).run prog w=.ok (.agg ni) w:=by kernel_rfl
theorem DY(w:World):(w.alloc (.cells jd 155)).rowIs w.heap.size 155 2048 (λ_=>.bool false):=
 ⟨jd,heap_alloc_new w _,by simp[jd],λi a=>by simp[jd,a]⟩
theorem row256(w:World):(w.alloc (.cells ni 156)).rowIs w.heap.size 156 256 (λ_=>.bool false):=
 ⟨ni,heap_alloc_new w _,by simp[ni],λi a=>by simp[ni,a]⟩
theorem Eg(x gl gs:Nat)(w:World)(hx:x<2048)(hc:w.cell? ⟨gl,x/8,none⟩=some (.bool true)):
 Calls prog 88 #[.int .i64 (x:Int),.pointer (some ⟨gl,0,none⟩),.pointer (some ⟨gs,0,none⟩)] w λe w'=>e=.returned (.tuple #[])/\w=w':=by go_enter func88,ntmps88;go_wp2;go_end0;exact⟨rfl,rfl⟩
theorem Bg(x gl gs n:Nat)(w:World)(hx:x<2048)(hn:n<=32)(hg:gl≠gs)(hc:w.cell? ⟨gl,x/8,none⟩=some (.bool false))(hf:w.frozen? ⟨gl,x/8,none⟩=false)(hs:w.cell? ⟨gs,0,none⟩=some (.int .i64 (n:Int)))(hsf:w.frozen? ⟨gs,0,none⟩=false):
 Calls prog 88 #[.int .i64 (x:Int),.pointer (some ⟨gl,0,none⟩),.pointer (some ⟨gs,0,none⟩)] w λe w'=>e=.returned (.tuple #[]) /\
  (w.setCell ⟨gl,x/8,none⟩ (.bool true)).setCell ⟨gs,0,none⟩ (.int .i64 ((n:Int)+1))=w':=by have hg':gs≠gl:=λh=>hg h.symm;go_enter func88,ntmps88;go_wp2;go_end0;exact⟨rfl,rfl⟩
structure OfRel (H:Nat) (ad:List Int) (k:Nat) (w wr:World):Prop where
 below:Below H w wr
 res:wr.rowIs H 61 3 (λ_=>.int .i64 0)
 words:wr.rowIs (H+1) 155 2048 (λi=>.bool (cd ad (i:Int) k))
 lines:wr.rowIs (H+1+1) 156 256 (λi=>.bool (cq ad (8*(i:Int)) k))
 sev:wr.rowIs (H+1+1+1) 3 1 (λ_=>.int .i64 (eZ ad k:Nat))
theorem OfRel.start(w:World)(ad:List Int):OfRel w.heap.size ad 0 w ((((w.alloc (.cells #[.int .i64 0,.int .i64 0,.int .i64 0] 61)).alloc (.cells jd 155)).alloc (.cells ni 156)).alloc (.cells #[.int .i64 0] 3)):=by
 have d:=DY (w.alloc (.cells #[.int .i64 0,.int .i64 0,.int .i64 0] 61));have c:=row256 ((w.alloc (.cells #[.int .i64 0,.int .i64 0,.int .i64 0] 61)).alloc (.cells jd 155));simp only[kqn] at d c;refine⟨?_,?_,?_,?_,?_⟩
 . (repeat' (first | with_reducible assumption | with_reducible exact kqk _ _ | (with_reducible refine az ?_ _) | (with_reducible refine kjc ?_) | (with_reducible refine kxw ?_ ?_ _) | (with_reducible refine kq5 ?_ ?_ _)))<;>(first | exact kqb _ | exact kzx _ | omega | (dsimp only;omega) | ((repeat (first | (with_reducible refine aH ?_) | (with_reducible refine dZ ?_) | (with_reducible refine cp ?_)));first | exact kqb _ | omega))
 .exact ((World.rowIs.alloc (⟨#[.int .i64 0,.int .i64 0,.int .i64 0],heap_alloc_new w _,rfl,λi a=>by
   match i,a with
   | 0,_=>rfl
   | 1,_=>rfl
   | 2,_=>rfl⟩) _).alloc _).alloc _
 .exact (d.alloc _).alloc _
 .exact c.alloc _
 have b:=heap_alloc_new (((w.alloc (.cells #[.int .i64 0,.int .i64 0,.int .i64 0] 61)).alloc (.cells jd 155)).alloc (.cells ni 156)) (.cells #[.int .i64 0] 3);simp only[kqn] at b;exact⟨#[.int .i64 0],b,rfl,λi a=>by
  match i,a with
  | 0,_=>rfl⟩
theorem OfRel.wstep(h:OfRel H ad k w wr)(hx:ad[k]?.getD 0=(x:Int)):
 (wr.setCell ⟨H+1,x,none⟩ (.bool true)).rowIs (H+1) 155 2048 (λi=>.bool (cd ad (i:Int) (k+1))):=
 (h.words.set x (.bool true)).congr λi _=>by
  simp only[cd,hx]
  by_cases e:i=x
  .subst e;simp
  .have:((x:Int)==(i:Int))=false:=by rw[kqi];omega
   simp[e,this]
theorem OfRel.step_new(h:OfRel H ad k w wr)(hx:ad[k]?.getD 0=(x:Int))(hl:cq ad (8*((x/8:Nat):Int)) k=false)(o:Obj):
 OfRel H ad (k+1) w ((((wr.setCell ⟨H+1,x,none⟩ (.bool true)).setCell ⟨H+1+1,x/8,none⟩ (.bool true)).setCell ⟨H+1+1+1,0,none⟩ (.int .i64 ((eZ ad k:Nat)+1))).alloc o):=by
 have hz3:=h.sev.lt;have hB:=h.below;refine⟨?_,?_,?_,?_,?_⟩
 . (repeat' (first | with_reducible assumption | with_reducible exact kqk _ _ | (with_reducible refine az ?_ _) | (with_reducible refine kjc ?_) | (with_reducible refine kxw ?_ ?_ _) | (with_reducible refine kq5 ?_ ?_ _)))<;>(first | exact kqb _ | exact kzx _ | omega | (dsimp only;omega) | ((repeat (first | (with_reducible refine aH ?_) | (with_reducible refine dZ ?_) | (with_reducible refine cp ?_)));first | exact kqb _ | omega))
 .have b:=h.res;(repeat' (first | with_reducible exact b | (with_reducible refine World.rowIs.alloc ?_ _) | (with_reducible refine World.rowIs.setOther ?_ ?_ _) | (with_reducible refine iw ?_ _)))<;>(dsimp only;omega)
 .have b:=h.wstep hx;(repeat' (first | with_reducible exact b | (with_reducible refine World.rowIs.alloc ?_ _) | (with_reducible refine World.rowIs.setOther ?_ ?_ _) | (with_reducible refine iw ?_ _)))<;>(dsimp only;omega)
 .refine (World.rowIs.setOther (World.rowIs.congr ((World.rowIs.setOther h.lines (a:=⟨H+1,x,none⟩) (by dsimp only;omega) _).set (x/8) (.bool true)) ?_) (by dsimp only;omega) _).alloc _;intro i c;simp only[cq,hx];by_cases e:i=x/8
  .subst e;have:((x:Int)/8==8*((x/8:Nat):Int)/8)=true:=by rw[kqu];omega
   rw[this,if_pos rfl,Bool.or_true]
  have:((x:Int)/8==8*(i:Int)/8)=false:=by rw[kqi];omega
  rw[this,if_neg e,kk6]
 refine (World.rowIs.congr ((World.rowIs.setOther (World.rowIs.setOther h.sev (a:=⟨H+1,x,none⟩) (by dsimp only;omega) _) (a:=⟨H+1+1,x/8,none⟩) (by dsimp only;omega) _).set 0 _) ?_).alloc _;intro i c;have e:i=0:=by omega
 subst e;have:cq ad (x:Int) k=false:=by rw[mU ad (x:Int) (8*((x/8:Nat):Int)) (by omega)];exact hl
 simp[eZ,hx,this]
theorem OfRel.step_old(h:OfRel H ad k w wr)(hx:ad[k]?.getD 0=(x:Int))(hl:cq ad (8*((x/8:Nat):Int)) k=true)(o:Obj):
 OfRel H ad (k+1) w ((wr.setCell ⟨H+1,x,none⟩ (.bool true)).alloc o):=by
 have hz3:=h.sev.lt;have hB:=h.below;refine⟨?_,?_,?_,?_,?_⟩
 . (repeat' (first | with_reducible assumption | with_reducible exact kqk _ _ | (with_reducible refine az ?_ _) | (with_reducible refine kjc ?_) | (with_reducible refine kxw ?_ ?_ _) | (with_reducible refine kq5 ?_ ?_ _)))<;>(first | exact kqb _ | exact kzx _ | omega | (dsimp only;omega) | ((repeat (first | (with_reducible refine aH ?_) | (with_reducible refine dZ ?_) | (with_reducible refine cp ?_)));first | exact kqb _ | omega))
 .have b:=h.res;(repeat' (first | with_reducible exact b | (with_reducible refine World.rowIs.alloc ?_ _) | (with_reducible refine World.rowIs.setOther ?_ ?_ _) | (with_reducible refine iw ?_ _)))<;>(dsimp only;omega)
 .have b:=h.wstep hx;(repeat' (first | with_reducible exact b | (with_reducible refine World.rowIs.alloc ?_ _) | (with_reducible refine World.rowIs.setOther ?_ ?_ _) | (with_reducible refine iw ?_ _)))<;>(dsimp only;omega)
 .refine (World.rowIs.congr (World.rowIs.setOther h.lines (a:=⟨H+1,x,none⟩) (by dsimp only;omega) _) ?_).alloc _;intro i c;simp only[cq,hx];by_cases e:i=x/8
  .rw[e,hl,kko]
  have:((x:Int)/8==8*(i:Int)/8)=false:=by rw[kqi];omega
  rw[this,kk6]
 refine (World.rowIs.congr (World.rowIs.setOther h.sev (a:=⟨H+1,x,none⟩) (by dsimp only;omega) _) ?_).alloc _;intro i c;have e:i=0:=by omega
 subst e;have:cq ad (x:Int) k=true:=by rw[mU ad (x:Int) (8*((x/8:Nat):Int)) (by omega)];exact hl
 simp[eZ,hx,this]
theorem of_c(A:Option Addr)(l:List En)(c:Nat)(w:World)(hm:l.length<=9223372036854775807)(hr:RdE w w.heap.size A l):
 Calls prog 44 #[.slice A l.length c] w λe w'=>e=.returned (fP (aB l))/\Below w.heap.size w w':=by
 have HR:=hid hr;clear hr;by_cases h:32<l.length
 .have f:=hid (jz (oI (ad:=aB l) (by rw[cc];exact h)) (by omega));go_enter func44,ntmps44;go_wp2_with fail;exact kqr (v:=.tuple #[eD 0 0 0,.int .i64 4]) (by simp[results,results44,go_sem,eD]) rfl ⟨by rw[f.out],(kqk _ _).alloc (kqb _) _⟩
 have S:l.length<=32:=by omega
 clear h;have O:=Bi;have M:=DO;go_enter func44,ntmps44;go_wp2_with fail;clear O M;go_loopw [19] (λi wr=>∃k:Nat,k<=l.length/\i=.int .i64 k/\eU (aB l) k=true/\OfRel w.heap.size (aB l) k w wr) (λi _=>l.length-(intOf i).toNat)
 case atStart =>
  exact⟨0,kqx _,rfl,rfl,OfRel.start w _⟩
 obtain⟨k,hk,rfl,L,hR⟩:=hrel;have K:=hid L;clear L;have d:=hid hR;clear hR;have r:=d.out.res.lt;have O:=d.out.words.lt;have M:=d.out.lines.lt;have hz3:=d.out.sev.lt;have z:=d.out.res.cell (i:=0) (by omega);have q:=d.out.res.cell (i:=1) (by omega);have y:=d.out.res.cell (i:=2) (by omega);have hf0:=d.out.res.frozen 0;have hf1:=d.out.res.frozen 1;have hf2:=d.out.res.frozen 2;by_cases F:k<l.length
 .obtain ⟨b,U,rfl,hb,h2,V⟩:=HR.out.at_ F;have C:=hid (iN l k F);replace h2:=(d.out.below.cell (p:=⟨b,U+k*2,none⟩) hb).trans h2;replace V:=(d.out.below.cell (p:=⟨b,U+k*2+1,none⟩) hb).trans V;generalize hx:l[k].a=x at *;generalize hv:l[k].v=v at *;have HX:=hid hx;have HV:=hid hv;clear hx hv;have hz4:b<wr.heap.size:=by omega
  have f:∀w':World,eU (aB l) (k+1)=false->Below w.heap.size w w' ->
   Ending.returned (.tuple #[eD 0 0 0,.int .i64 2])=.returned (fP (aB l))/\Below w.heap.size w w':=
   λ_ h1 V=>⟨by rw[jz (qi (by rw[cc];exact S) h1 (by rw[cc];exact F)) (by omega)],V⟩
  have E:=hid f;clear f;have hB:=d.out.below;by_cases W:x<0
  .have u:=hid (ke (ad:=aB l) (k:=k) (by rw[C.out];omega));go_wp2_with fail;refine kqr (v:=.tuple #[eD 0 0 0,.int .i64 2]) (by simp[results,results44,go_sem,eD,z,q,y,r]) rfl (E.out _ u.out ?_);(repeat' (first | with_reducible assumption | with_reducible exact kqk _ _ | (with_reducible refine az ?_ _) | (with_reducible refine kjc ?_) | (with_reducible refine kxw ?_ ?_ _) | (with_reducible refine kq5 ?_ ?_ _)))<;>(first | exact kqb _ | exact kzx _ | omega | (dsimp only;omega) | ((repeat (first | (with_reducible refine aH ?_) | (with_reducible refine dZ ?_) | (with_reducible refine cp ?_)));first | exact kqb _ | omega))
  obtain⟨x,rfl⟩:=kq2 (show 0<=x by omega);clear W;by_cases X:2048<=x
  .have u:=hid (ke (ad:=aB l) (k:=k) (by rw[C.out];omega));go_wp2_with fail;refine kqr (v:=.tuple #[eD 0 0 0,.int .i64 2]) (by simp[results,results44,go_sem,eD,z,q,y,r]) rfl (E.out _ u.out ?_);(repeat' (first | with_reducible assumption | with_reducible exact kqk _ _ | (with_reducible refine az ?_ _) | (with_reducible refine kjc ?_) | (with_reducible refine kxw ?_ ?_ _) | (with_reducible refine kq5 ?_ ?_ _)))<;>(first | exact kqb _ | exact kzx _ | omega | (dsimp only;omega) | ((repeat (first | (with_reducible refine aH ?_) | (with_reducible refine dZ ?_) | (with_reducible refine cp ?_)));first | exact kqb _ | omega))
  have J:x<2048:=by omega
  clear X;have N:=d.out.words.cell (i:=x) J;have hwf:=d.out.words.frozen x;have P:=d.out.lines.cell (i:=x/8) (by omega);have hlf:=d.out.lines.frozen (x/8);have R:=d.out.sev.cell (i:=0) (by omega);have Y:=d.out.sev.frozen 0;cases j:cd (aB l) x k
  .have T:=hid j;rw[j] at N;clear j;cases o:cq (aB l) (8*((x/8:Nat):Int)) k
   .rw[o] at P;have I:=hid o;clear o;have G:=jo (aB l) k;go_wp2_with fail;refine (Bg x (w.heap.size+1+1) (w.heap.size+1+1+1) (eZ (aB l) k) _ J (by omega) (by omega) (by go_simp) (by go_simp) (by go_simp) (by go_simp)).mono ?_;rintro e w1 ⟨rfl,rfl⟩;go_wp2;go_roundw
    case rel =>
     exact⟨k+1,by omega,by go_num,kZ K.out (by rw[C.out];omega) (by rw[C.out];omega) (by rw[C.out];exact T.out),d.out.step_new C.out I.out _⟩
    case measure=>simp[intOf];omega
   rw[o] at P;have I:=hid o;clear o;go_wp2_with fail;refine (Eg x (w.heap.size+1+1) (w.heap.size+1+1+1) _ J (by go_simp)).mono ?_;rintro e w1 ⟨rfl,rfl⟩;go_wp2;go_roundw
   case rel =>
    exact⟨k+1,by omega,by go_num,kZ K.out (by rw[C.out];omega) (by rw[C.out];omega) (by rw[C.out];exact T.out),d.out.step_old C.out I.out _⟩
   case measure=>simp[intOf];omega
  rw[j] at N;have u:=hid (show eU (aB l) (k+1)=false by simp[eU,C.out,j]);clear j;go_wp2_with fail;refine kqr (v:=.tuple #[eD 0 0 0,.int .i64 2]) (by simp[results,results44,go_sem,eD,z,q,y,r]) rfl (E.out _ u.out ?_);(repeat' (first | with_reducible assumption | with_reducible exact kqk _ _ | (with_reducible refine az ?_ _) | (with_reducible refine kjc ?_) | (with_reducible refine kxw ?_ ?_ _) | (with_reducible refine kq5 ?_ ?_ _)))<;>(first | exact kqb _ | exact kzx _ | omega | (dsimp only;omega) | ((repeat (first | (with_reducible refine aH ?_) | (with_reducible refine dZ ?_) | (with_reducible refine cp ?_)));first | exact kqb _ | omega))
 have:k=l.length:=by omega
 subst this;have R := d.out.sev.cell (i := 0) (by omega);have Y := d.out.sev.frozen 0;have G := jo (aB l) l.length;have Z:Hid (fP (aB l)=.tuple #[eD (fd (aB l)) (dU (aB l)) (ff (aB l)),.int .i64 0]):=
  qB (sO (by rw[cc];exact S) (by rw[cc];exact K.out))
 have hB:=d.out.below;have H:∀w':World,Below w.heap.size w w'->Ending.returned (.tuple #[eD (fd (aB l)) (dU (aB l)) (ff (aB l)),.int .i64 0])=.returned (fP (aB l))/\Below w.heap.size w w':=λ_ h=>⟨by rw[Z.out],h⟩;have g:=hid H;clear H F;by_cases B:l.length=0
 .obtain ⟨n,hn⟩:∃n,n=l.length:=⟨_,rfl⟩;have Q:eZ (aB l) l.length=0:=by rw[B];rfl
  have D:fd (aB l)=0:=by simp[fd,cc,B]
  have t:dU (aB l)=0:=by simp[dU,cc,B]
  have s:ff (aB l)=0:=by simp[ff,cc,B]
  rw[D,t,s] at g;rw[Q] at R;clear D t s Q Z G;rw[<-hn] at B;have H0:=hid B;rw[<-hn,B];clear B hn;go_wp2_with fail;refine kqr (v:=.tuple #[eD 0 0 0,.int .i64 0]) (by simp[results,results44,go_sem,eD,z,q,y,r]) rfl (g.out _ ?_);(repeat' (first | with_reducible assumption | with_reducible exact kqk _ _ | (with_reducible refine az ?_ _) | (with_reducible refine kjc ?_) | (with_reducible refine kxw ?_ ?_ _) | (with_reducible refine kq5 ?_ ?_ _)))<;>(first | exact kqb _ | exact kzx _ | omega | (dsimp only;omega) | ((repeat (first | (with_reducible refine aH ?_) | (with_reducible refine dZ ?_) | (with_reducible refine cp ?_)));first | exact kqb _ | omega))
 have D:fd (aB l)=3*l.length+2:=by simp[fd,cc,B]
 have t:dU (aB l)=(2*l.length+8-1)/8+eZ (aB l) l.length+2:=by rw[show (2*(l.length:Int)+8-1)=2*l.length+7 from by omega];simp[dU,cc,B]
 have s:ff (aB l)=4:=by simp[ff,cc,B]
 rw[D,t,s] at g;clear D t s Z;generalize eZ (aB l) l.length=m at *;have hne:(((3*(l.length:Int)+2==2))=false):=by rw[kqi];omega
 go_wp2_with fail;refine kqr (v:=.tuple #[eD (3*l.length+2) ((2*l.length+8-1)/8+m+2) 4,.int .i64 0]) (by simp[results,results44,go_sem,eD,z,q,y,r]) rfl (g.out _ ?_);(repeat' (first | with_reducible assumption | with_reducible exact kqk _ _ | (with_reducible refine az ?_ _) | (with_reducible refine kjc ?_) | (with_reducible refine kxw ?_ ?_ _) | (with_reducible refine kq5 ?_ ?_ _)))<;>(first | exact kqb _ | exact kzx _ | omega | (dsimp only;omega) | ((repeat (first | (with_reducible refine aH ?_) | (with_reducible refine dZ ?_) | (with_reducible refine cp ?_)));first | exact kqb _ | omega))
def dW:List (List Int)->Int
 | []=>0
 | c::cs=>if gM c=0 then dW cs else gM c
def tot (f:List Int->Int):List (List Int)->Int
 | []=>0
 | c::cs=>f c+tot f cs
theorem kf(a b:List (List Int)):dW (a++b)=if dW a=0 then dW b else dW a:=by
 induction a with
 | nil=>simp[dW]
 | cons c a ih =>
  simp only[kzr,dW];by_cases h:gM c=0
  .simp[h,ih]
  simp[h]
theorem ux(f:List Int->Int)(a b:List (List Int)):tot f (a++b)=tot f a+tot f b:=by
 induction a with
 | nil=>simp[tot]
 | cons c a ih=>simp only[kzr,tot,ih];omega
theorem nM(f:List Int->Int)(m:Int)(hf:∀c,0<=f c/\f c<=m)(a:List (List Int)):0<=tot f a/\tot f a<=m*a.length:=by
 induction a with
 | nil=>simp[tot]
 | cons c a ih =>
  have:=hf c;simp only[tot,kq3];have e:m*((a.length+1:Nat):Int)=m*a.length+m:=by rw[kx1,Int.mul_add];simp
  rw[e];omega
theorem pZ(h:gM ad=0):ad.length<=32/\eU ad ad.length=true:=by
 unfold gM at h;split at h
 .simp at h
 split at h
 .exact ⟨by omega,by assumption⟩
 simp at h
theorem tA(ad:List Int):0<=ofS ad/\ofS ad<=98:=by
 unfold ofS;split
 .have:=(pZ ‹_›).1;unfold fd;split<;>omega
 omega
theorem sY(ad:List Int):0<=ofF ad/\ofF ad<=98:=by
 unfold ofF;split
 .have:=(pZ ‹_›).1;have:=jo ad ad.length;unfold dU;split<;>omega
 omega
theorem sW(ad:List Int):0<=ofN ad/\ofN ad<=98:=by
 unfold ofN;split
 .unfold ff;split<;>omega
 omega
theorem jW{cs:List (List Int)}(hk:k<cs.length)(h:dW (cs.take k)=0):dW (cs.take (k+1))=gM cs[k]:=by
 rw[kqq hk,kf,if_pos h];simp only[dW];split
 .simp[*]
 rfl
theorem jB(f:List Int->Int){cs:List (List Int)}(hk:k<cs.length):tot f (cs.take (k+1))=tot f (cs.take k)+f cs[k]:=by rw[kqq hk,ux];simp[tot]
theorem uG{cs:List (List Int)}(h:dW (cs.take k)≠0):dW cs=dW (cs.take k):=by have:=kf (cs.take k) (cs.drop k);rw[kz2,if_neg h] at this;exact this
def smS (cs:List (List Int)):Int:=if dW cs=0 then tot ofS cs else 0
def smF (cs:List (List Int)):Int:=if dW cs=0 then tot ofF cs else 0
def smN (cs:List (List Int)):Int:=if dW cs=0 then tot ofN cs else 0
def chA (cs:List Ch):List (List Int):=cs.map λx=>aB x.l
theorem jb(cs:List Ch):(chA cs).length=cs.length:=by simp[chA]
def ge (L:List (List Int)):Value:=.tuple #[eD (smS L) (smF L) (smN L),.int .i64 (dW L)]
theorem oD{L:List (List Int)}{r:Int}(hk:k<L.length)(h:dW (L.take k)=0)(hr:gM L[k]=r)(h0:r≠0):ge L=.tuple #[eD 0 0 0,.int .i64 r]:=by have a:=jW hk h;rw[hr] at a;have b:=uG (cs:=L) (k:=k+1) (by rw[a];exact h0);rw[a] at b;simp[ge,smS,smF,smN,b,h0]
theorem qq{L:List (List Int)}(h:dW L=0):ge L=.tuple #[eD (tot ofS L) (tot ofF L) (tot ofN L),.int .i64 0]:=by simp[ge,smS,smF,smN,h]
structure SumRel (H:Nat) (L:List (List Int)) (k:Nat) (w wr:World):Prop where
 below:Below H w wr
 err:dW (L.take k)=0
 res:Bx wr H 61 #[.int .i64 0,.int .i64 0,.int .i64 0]
 out:Bx wr (H+1) 61 #[.int .i64 (tot ofS (L.take k)),.int .i64 (tot ofF (L.take k)),.int .i64 (tot ofN (L.take k))]
theorem Bj(A:Option Addr)(cs:List Ch)(c:Nat)(w:World)(hm:cs.length<=4294967296)(hr:RdC w w.heap.size A cs)(hok:∀x∈cs,x.l.length<=maxLen/\RdE w w.heap.size x.A x.l):
 Calls prog 59 #[.slice A cs.length c] w λe w'=>e=.returned (ge (chA cs))/\Below w.heap.size w w':=by
 have HR:=hid hr;have HO:=hid hok;clear hr hok;go_enter func59,ntmps59;go_wp2_with fail;go_loopw [11] (λi wr=>∃k:Nat,k<=cs.length/\i=.int .i64 k/\SumRel w.heap.size (chA cs) k w wr) (λi _=>cs.length-(intOf i).toNat)
 case atStart =>
  refine⟨0,kqx _,rfl,?_,rfl,?_,?_⟩
  . (repeat' (first | with_reducible assumption | with_reducible exact kqk _ _ | (with_reducible refine az ?_ _) | (with_reducible refine kjc ?_) | (with_reducible refine kxw ?_ ?_ _) | (with_reducible refine kq5 ?_ ?_ _)))<;>(first | exact kqb _ | exact kzx _ | omega | (dsimp only;omega) | ((repeat (first | (with_reducible refine aH ?_) | (with_reducible refine dZ ?_) | (with_reducible refine cp ?_)));first | exact kqb _ | omega))
  .exact (Bx.new w _ _).alloc _
  have:=Bx.new (w.alloc (.cells #[.int .i64 0,.int .i64 0,.int .i64 0] 61)) 61 #[.int .i64 0,.int .i64 0,.int .i64 0];rw[kqn] at this;exact this
 obtain⟨k,hk,rfl,hR⟩:=hrel;have a:=hid hR;clear hR;by_cases s:k<cs.length
 .obtain ⟨b,off,rfl,hb,h2⟩:=HR.out.at_ s;replace h2:=(a.out.below.cell (p:=⟨b,off+k,none⟩) hb).trans h2;have g:k<(chA cs).length:=by rw[jb];exact s
  have K:=hid (HO.out cs[k] (kqs s));have R:(chA cs)[k]=aB cs[k].l:=by simp[chA]
  have G:=jB ofS g;have O:=jB ofF g;have S:=jB ofN g;have W:=jW g a.out.err;have f:=λr=>oD (r:=r) g a.out.err;rw[R] at G O S W f;generalize cs[k]=x at *;obtain⟨xA,xc,h⟩:=x;dsimp only at *;obtain⟨N,P,J,q4,q5,q6,q7⟩:=a.out.res.c3;obtain⟨V,X,Z,o4,o5,o6,o7⟩:=a.out.out.c3;have m:=nM ofS 98 tA ((chA cs).take k);have j:=nM ofF 98 sY ((chA cs).take k);have n:=nM ofN 98 sW ((chA cs).take k);have hlk:(((chA cs).take k).length:Int)<=4294967296:=by rw[kzd,jb];omega
  have I:=tA (aB h);have H:=sY (aB h);have F:=sW (aB h);have Fo:h.length<=9223372036854775807:=by have:=K.out.1;unfold maxLen at this;exact this
  have Fp:=hid (K.out.2.up a.out.below a.out.below.size);obtain⟨s',D⟩:∃x,ofS (aB h)=x:=⟨_,rfl⟩;obtain⟨f',q⟩:∃x,ofF (aB h)=x:=⟨_,rfl⟩;obtain⟨n',B⟩:∃x,ofN (aB h)=x:=⟨_,rfl⟩;obtain⟨r,u⟩:=xq (gM (aB h));have HE:=hid (show fP (aB h)=.tuple #[.agg #[.int .i64 s',.int .i64 f',.int .i64 n'],.int .i64 r] by rw[fP,eD,D,q,B,u]);rw[D] at G I;rw[q] at O H;rw[B] at S F;rw[u] at W f;clear D q B u R;obtain⟨s0,E⟩:=xq (tot ofS ((chA cs).take k));obtain⟨f0,y⟩:=xq (tot ofF ((chA cs).take k));obtain⟨n0,C⟩:=xq (tot ofN ((chA cs).take k));rw[E] at G m V;rw[y] at O j X;rw[C] at S n Z;have HS:=hid G;have HF:=hid O;have HN:=hid S;have Eq:=hid W;have M:=hid (f r rfl);have d:=a.out.out;rw[E,y,C] at d;have Q:=hid d;clear G O S W f E y C d;have hbS2:s0<=420906795008:=by have:=m.2;omega
  have hbF2:f0<=420906795008:=by have:=j.2;omega
  have hbN2:n0<=420906795008:=by have:=n.2;omega
  have hbS1:=m.1;have hbF1:=j.1;have hbN1:=n.1;clear m j n;obtain⟨c1,c2⟩:=I;obtain⟨c3,c4⟩:=H;obtain⟨c5,c6⟩:=F;have Y:=a.out.below;have hz:=Y.size;go_wp2_with fail;refine (of_c xA h xc _ Fo Fp.out).mono ?_;rintro e w2 ⟨rfl,z⟩;rw[HE.out];have g1:=a.out.res.up z q7;have g2:=Q.out.up z o7;clear N P J q4 q5 q6 V X Z o4 o5 o6 h2;obtain⟨N,P,J,q4,q5,q6,q7'⟩:=g1.c3;obtain⟨V,X,Z,o4,o5,o6,o7'⟩:=g2.c3;have hb2:=Y.trans (z.mono hz);by_cases T:r=0
  .subst T;have G1:=hid g1;have G2:=hid g2;clear g1 g2;go_wp2;go_roundw
   case rel =>
    refine⟨k+1,by omega,by go_num,?_,Eq.out,?_,?_⟩
    . (repeat' (first | with_reducible assumption | with_reducible exact kqk _ _ | (with_reducible refine az ?_ _) | (with_reducible refine kjc ?_) | (with_reducible refine kxw ?_ ?_ _) | (with_reducible refine kq5 ?_ ?_ _)))<;>(first | exact kqb _ | exact kzx _ | omega | (dsimp only;omega) | ((repeat (first | (with_reducible refine aH ?_) | (with_reducible refine dZ ?_) | (with_reducible refine cp ?_)));first | exact kqb _ | omega))
    .exact (((G1.out.far (by dsimp only;omega) _).far (by dsimp only;omega) _).far (by dsimp only;omega) _).alloc _
    rw[HS.out,HF.out,HN.out];exact (((G2.out.set_ 0 _).set_ 1 _).set_ 2 _).alloc _
   case measure=>simp[intOf];omega
  have hn1:(r==0)=false:=by rw[kqi];exact T
  have hn2:(r != 0)=true:=by rw[kqt];exact T
  have t:=hid (M.out T);clear T;go_wp2_with fail;refine kqr (v:=.tuple #[eD 0 0 0,.int .i64 r]) (by simp[results,results59,go_sem,eD,N,P,J,q7']) rfl ⟨by rw[t.out],?_⟩;(repeat' (first | with_reducible assumption | with_reducible exact kqk _ _ | (with_reducible refine az ?_ _) | (with_reducible refine kjc ?_) | (with_reducible refine kxw ?_ ?_ _) | (with_reducible refine kq5 ?_ ?_ _)))<;>(first | exact kqb _ | exact kzx _ | omega | (dsimp only;omega) | ((repeat (first | (with_reducible refine aH ?_) | (with_reducible refine dZ ?_) | (with_reducible refine cp ?_)));first | exact kqb _ | omega))
 have:k=cs.length:=by omega
 subst this;have Y:=a.out.below;have hz:=Y.size;have o:=qq (L:=chA cs) (by have:=a.out.err;rwa [<-jb cs,kzj] at this);have d:=a.out.out;rw[<-jb cs,kzj] at d;obtain⟨N,P,J,q4,q5,q6,q7⟩:=a.out.res.c3;generalize tot ofS (chA cs)=s0 at *;generalize tot ofF (chA cs)=f0 at *;generalize tot ofN (chA cs)=n0 at *;have U:=hid o;obtain⟨V,X,Z,o4,o5,o6,o7⟩:=d.c3;clear o d;go_wp2_with fail;refine kqr (v:=.tuple #[eD s0 f0 n0,.int .i64 0]) (by simp[results,results59,go_sem,eD,N,P,J]) rfl ⟨by rw[U.out],?_⟩;(repeat' (first|with_reducible assumption|with_reducible exact kqk _ _ | (with_reducible refine az ?_ _) | (with_reducible refine kjc ?_) | (with_reducible refine kxw ?_ ?_ _) | (with_reducible refine kq5 ?_ ?_ _)))<;>(first|exact kqb _|exact kzx _|omega | (dsimp only;omega) | ((repeat (first | (with_reducible refine aH ?_) | (with_reducible refine dZ ?_) | (with_reducible refine cp ?_)));first|exact kqb _|omega))
theorem sum_n(A:Option Addr)(cs:List Ch)(c n:Nat)(w:World)(hn:cs.length=n)(hm:n<=4294967296)(hr:RdC w w.heap.size A cs)(hok:∀x∈cs,x.l.length<=maxLen/\RdE w w.heap.size x.A x.l):
 Calls prog 59 #[.slice A n c] w λe w'=>e=.returned (ge (chA cs))/\Below w.heap.size w w':=by subst hn;exact Bj A cs c w hm hr hok
end Go.Proofs.YtpcajamacpbjcaaGreat
