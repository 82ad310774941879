/- Texts laid together: PhP Ph Cur1 Mvd Ck Left. -/
import Derived.Test.YtpcajamacpbjcaaGreatZKHead
import Derived.Test.YtpcajamacpbjcaaGreatZKPlain
import Derived.Test.YtpcajamacpbjcaaGreatZKHeap
import Derived.Deep.RegionHeld3
import Derived.Deep.DrawnRows
import Derived.Laws.BitsLemmas
import Derived.Test.YtpcajamacpbjcaaGreatZKMove
namespace Go.Proofs.YtpcajamacpbjcaaGreat
open Lib (hid)
def zkp (n:Nat):Bool:=decide (128≤n) && (decide (n≤2048) && n % 2 == 0)
theorem za7 (n:Nat):zkp n=true↔128≤n∧n≤2048∧n % 2=0:=by simp[zkp]
def zAy (p f t:Nat):Bool:=if p=4 then zkp f && (zkp t && decide (t≤f)) else if t≠0 then false else if p=3 then f == 0 || zkp f else decide (p<3) && f == 0
theorem zcp (p f t:Nat):zAy p f t=true↔p=4∧zkp f=true∧zkp t=true∧t≤f∨p=3∧t=0∧(f=0∨zkp f=true)∨p<3∧t=0∧f=0:=by
 unfold zAy
 split
 · rename_i h
   subst h
   simp
 · rename_i h4
   split
   · rename_i h
     simp[h4,h]
   · rename_i h
     have h0:t=0:=by omega
     subst h0
     split
     · rename_i h3
       subst h3
       simp
     · rename_i h3
       simp[h4,h3]
def zh5 (ws:List Nat):Bool:=(decide (wd ws 16≤ws.length) && (decide (wd ws 17≤ws.length) && decide (wd ws 18≤ws.length))) && (wd ws 19 == 0 && (wd ws 20 == 0 && (wd ws 21 == 0 && (wd ws 22 == 0 && wd ws 23 == 0))))
def zcs (ws:List Nat):Int:=if zah (ws.length:Int)=true then (if (zh5 ws && zAy (wd ws 16) (wd ws 17) (wd ws 18))=true then 0 else 50) else 8
def phV (p f t:Nat):Value:=.agg #[.int .i64 (p:Int),.int .i64 (f:Int),.int .i64 (t:Int)]
def prV (ws:List Nat):Value:=if zcs ws=0 then phV (wd ws 16) (wd ws 17) (wd ws 18) else phV 0 0 0
theorem zsj {ws:List Nat} (h:zah (ws.length:Int)=false):zcs ws=8∧prV ws=phV 0 0 0:=by simp[prV,zcs,h]
theorem zr9 {ws:List Nat} (h:zah (ws.length:Int)=true) (h2:(zh5 ws && zAy (wd ws 16) (wd ws 17) (wd ws 18))=false):zcs ws=50∧prV ws=phV 0 0 0:=by simp[prV,zcs,h,h2]
theorem zl5 {ws:List Nat} (h:zah (ws.length:Int)=true) (h2:(zh5 ws && zAy (wd ws 16) (wd ws 17) (wd ws 18))=true):zcs ws=0∧prV ws=phV (wd ws 16) (wd ws 17) (wd ws 18):=by simp[prV,zcs,h,h2]
theorem zfs {ws:List Nat} (h:zcs ws=0):zah (ws.length:Int)=true∧zh5 ws=true∧zAy (wd ws 16) (wd ws 17) (wd ws 18)=true:=by
 unfold zcs at h
 split at h
 · split at h
   · rename_i h1 h2
     simp only[Bool.and_eq_true] at h2
     exact ⟨h1,h2⟩
   · simp at h
 · simp at h
theorem zsm (ws:List Nat):zcs ws=0∨zcs ws=8∨zcs ws=50:=by
 unfold zcs
 split
 · split <;> simp
 · simp
theorem zbn (ws:List Nat):zh5 ws=true↔(wd ws 16≤ws.length∧wd ws 17≤ws.length∧wd ws 18≤ws.length)∧wd ws 19=0∧wd ws 20=0∧wd ws 21=0∧wd ws 22=0∧wd ws 23=0:=by simp[zh5]
theorem zGa {ws:List Nat} {i:Nat} (hi:i<8) (h:i<3∧ws.length<wd ws (16+i)∨3≤i∧wd ws (16+i)≠0):zh5 ws=false:=by
 cases hq:zh5 ws with
 | false=>rfl
 | true =>
  obtain ⟨⟨a0,a1,a2⟩,a3,a4,a5,a6,a7⟩:=(zbn ws).1 hq
  exfalso
  match i,hi with
  | 0,_=>simp only[Nat.add_zero] at h;omega
  | 1,_=>simp only[Nat.reduceAdd] at h;omega
  | 2,_=>simp only[Nat.reduceAdd] at h;omega
  | 3,_=>simp only[Nat.reduceAdd] at h;omega
  | 4,_=>simp only[Nat.reduceAdd] at h;omega
  | 5,_=>simp only[Nat.reduceAdd] at h;omega
  | 6,_=>simp only[Nat.reduceAdd] at h;omega
  | 7,_=>simp only[Nat.reduceAdd] at h;omega
def zo1 (ws:List Nat) (f:Nat):Bool:=match blocks ws 128 with
 | none=>false
 | some l=>l.any (fun b=>b.at_ == (f:Int)) || f == ws.length
def zcx (ws:List Nat):Int:=if zcs ws=0 then (if wd ws 16=3∧wd ws 17≠0∧zo1 ws (wd ws 17)=false then 50 else 0) else zcs ws
def lnV (ws:List Nat):Value:=if zcx ws=0 then phV (wd ws 16) (wd ws 17) (wd ws 18) else phV 0 0 0
theorem zgz {ws:List Nat} (h:zcx ws=0):zcs ws=0∧(wd ws 16=3→wd ws 17≠0→zo1 ws (wd ws 17)=true):=by
 unfold zcx at h
 split at h
 · rename_i h1
   refine ⟨h1,fun h2 h3 => ?_⟩
   split at h
   · simp at h
   · rename_i h4
     cases hq:zo1 ws (wd ws 17) with
     | true=>rfl
     | false=>exact absurd ⟨h2,h3,hq⟩ h4
 · rename_i h1;exact absurd h h1
theorem zzm (ws:List Nat):zcx ws=0∨zcx ws=8∨zcx ws=50:=by
 unfold zcx
 split
 · split <;> simp
 · exact zsm ws
def zpy (ws:List Nat) (i:Nat):Bool:=zar (wd ws i) && ((zaf (wd ws i)).kind == 1 && (!(zaf (wd ws i)).mark && zc2 ws (zaf (wd ws i))))
def zDi (ws:List Nat):Nat→Nat→Nat→Bool
 | 0,i,t=>i == t
 | f+1,i,t=>if i<t then zpy ws i && zDi ws f (i+szAt ws i) t else i == t
theorem zkv {ws:List Nat} {i:Nat} (h:zpy ws i=true):2≤szAt ws i∧szAt ws i % 2=0∧szAt ws i≤10:=by
 unfold zpy zar at h
 simp only[Bool.and_eq_true,beq_iff_eq] at h
 obtain ⟨⟨h1,-⟩,h2,-⟩:=h
 have h3:=(zbo _).1 h1
 have e:(zaf (wd ws i)).size=((szAt ws i:Nat):Int):=rfl
 omega
theorem zm5 {ws:List Nat} {t:Nat}:∀ {f i g:Nat},t - i≤f→t - i≤g→zDi ws f i t=zDi ws g i t:=by
 intro f
 induction f with
 | zero =>
  intro i g h hg
  cases g with
  | zero=>rfl
  | succ g=>simp only[zDi];rw[if_neg (by omega)]
 | succ f ih =>
  intro i g h hg
  cases g with
  | zero=>simp only[zDi];rw[if_neg (by omega)]
  | succ g =>
   simp only[zDi]
   split
   · cases hs:zpy ws i with
     | false=>simp
     | true =>
      have:=zkv hs
      rw[ih (i:=i+szAt ws i) (by omega) (g:=g) (by omega)]
   · rfl
def mvd (ws:List Nat) (i t:Nat):Bool:=zDi ws t i t
theorem zjg {ws:List Nat} {i t:Nat} (h:t≤i):mvd ws i t=(i == t):=by
 unfold mvd
 rw[zm5 (g:=0) (by omega) (by omega)];rfl
theorem zjs {ws:List Nat} {i t:Nat} (h:i<t) (h2:zpy ws i=true):mvd ws i t=mvd ws (i+szAt ws i) t:=by
 unfold mvd
 have:=zkv h2
 rw[zm5 (g:=t+1) (by omega) (by omega),zDi,if_pos h,h2,Bool.true_and]
theorem zs5 {ws:List Nat} {i t:Nat} (h:i<t) (h2:zpy ws i=false):mvd ws i t=false:=by
 unfold mvd
 rw[zm5 (g:=t+1) (by omega) (by omega),zDi,if_pos h,h2,Bool.false_and]
def zao (ws:List Nat):Int:=if zcx ws=0 then (if wd ws 16=4 then (if mvd ws 128 (wd ws 18)=true then zbi ws (wd ws 17:Nat) (wd ws 18:Nat) else 50) else if wd ws 16=3 then zbi ws 128 128 else zae ws) else zcx ws
def zf7 (ws:List Nat):Int:=if (wd ws 17:Int)<128 then 128 else (wd ws 17:Int)
def lfN (ws:List Nat):Nat:=if zao ws=0 then (if wd ws 16<3 then 0 else (zd8 (za5 ws (zf7 ws))).length) else 0
end Go.Proofs.YtpcajamacpbjcaaGreat
namespace Go.Proofs.YtpcajamacpbjcaaGreat
open Lib (hid)
open Go.RowKit
theorem zFa (n:Int):bits .and .i64 n 1=n % 2:=by
 have h1:(BitVec.ofInt 64 1).toNat=2 ^ 1 - 1:=by decide
 have key:(BitVec.ofInt 64 n &&& BitVec.ofInt 64 1).toNat=(n % ((2 ^ 64:Nat):Int)).toNat % 2 ^ 1:=by
  rw[BitVec.toNat_and,BitVec.toNat_ofInt,h1,Nat.and_two_pow_sub_one_eq_mod]
 show IntKind.i64.wrap ((BitVec.ofInt 64 n &&& BitVec.ofInt 64 1).toNat:Nat)=n % 2
 rw[key,IntKind.wrap_i64]
 omega
theorem zAm (n:Nat) (w:World) (hn:n≤4611686018427387904):Calls Tryz.prog 217 #[.int .i64 (n:Int)] w fun e w'=>e=.returned (.bool (zkp n))∧w=w':=by
 have H:Hid (∀ b:Bool,(b=true↔128≤n∧n≤2048∧n % 2=0)→b=zkp n):=hid fun b h=>by rw[Bool.eq_iff_iff,za7,h]
 have ha:=zFa (n:Int)
 go_enter Tryz.func217,Tryz.ntmps217
 go_wp2_with fail
 all_goals
  go_ret
  exact ⟨zj1 (H.out _ (by simp;omega)),rfl⟩
def zui (p f t:Nat):Int:=if zAy p f t=true then 0 else 8
set_option maxRecDepth 100000 in
set_option maxHeartbeats 2000000 in
theorem zFi (p f t:Nat) (w:World) (hp:p≤4611686018427387904) (hf:f≤4611686018427387904) (ht:t≤4611686018427387904) :
   Calls Tryz.prog 163 #[phV p f t] w fun e w'=>e=.returned (.int .i64 (zui p f t))∧Below w.heap.size w w':=by
 have HF:=hid (fun W=>zAm f W hf)
 have HT:=hid (fun W=>zAm t W ht)
 have HE:Hid (∀ r:Int,r=(if (if p=4 then zkp f && (zkp t && decide (t≤f)) else if t≠0 then false else if p=3 then f == 0 || zkp f else decide (p<3) && f == 0)=true then 0 else 8)→zui p f t=r):=hid fun r h=>by rw[h];rfl
 have hB:=(Below.refl w.heap.size w).alloc (Nat.le_refl _) (.cells #[.int .i64 (p:Int),.int .i64 (f:Int),.int .i64 (t:Int)] 107)
 have HB:=hid hB
 unfold phV
 clear hB
 by_cases p4:p=4
 · subst p4
   cases hif:zkp f
   · rw[hif] at HF
     have HV:=hid (HE.out 8 (by rw[if_pos rfl,hif];rfl))
     clear HE HT hif
     (try simp only[Int.cast_ofNat_Int] at HB ⊢)
     go_enter Tryz.func163,Tryz.ntmps163
     go_wp2_with fail
     refine (HF.out _).mono ?_
     rintro e w1 ⟨rfl,rfl⟩
     go_wp2_with fail
     go_ret
     exact ⟨by rw[HV.out];rfl,HB.out⟩
   · cases hit:zkp t
     · rw[hif] at HF
       rw[hit] at HT
       have HV:=hid (HE.out 8 (by rw[if_pos rfl,hif,hit];rfl))
       clear HE hif hit
       (try simp only[Int.cast_ofNat_Int] at HB ⊢)
       go_enter Tryz.func163,Tryz.ntmps163
       go_wp2_with fail
       refine (HF.out _).mono ?_
       rintro e w1 ⟨rfl,rfl⟩
       go_wp2_with fail
       refine (HT.out _).mono ?_
       rintro e w1 ⟨rfl,rfl⟩
       go_wp2_with fail
       go_ret
       exact ⟨by rw[HV.out];rfl,HB.out⟩
     · rw[hif] at HF
       rw[hit] at HT
       by_cases htf:t≤f
       · have hd:decide ((t:Int)≤(f:Int))=true:=by rw[decide_eq_true_iff];omega
         have hdn:decide (t≤f)=true:=by rw[decide_eq_true_iff];omega
         have HV:=hid (HE.out 0 (by rw[if_pos rfl,hif,hit,hdn];rfl))
         clear HE hif hit htf
         (try simp only[Int.cast_ofNat_Int] at HB ⊢)
         go_enter Tryz.func163,Tryz.ntmps163
         go_wp2_with fail
         refine (HF.out _).mono ?_
         rintro e w1 ⟨rfl,rfl⟩
         go_wp2_with fail
         refine (HT.out _).mono ?_
         rintro e w1 ⟨rfl,rfl⟩
         go_wp2_with fail
         go_ret
         exact ⟨by rw[HV.out];rfl,HB.out⟩
       · have hd:decide ((t:Int)≤(f:Int))=false:=by rw[decide_eq_false_iff_not];omega
         have hdn:decide (t≤f)=false:=by rw[decide_eq_false_iff_not];omega
         have HV:=hid (HE.out 8 (by rw[if_pos rfl,hif,hit,hdn];rfl))
         clear HE hif hit htf
         (try simp only[Int.cast_ofNat_Int] at HB ⊢)
         go_enter Tryz.func163,Tryz.ntmps163
         go_wp2_with fail
         refine (HF.out _).mono ?_
         rintro e w1 ⟨rfl,rfl⟩
         go_wp2_with fail
         refine (HT.out _).mono ?_
         rintro e w1 ⟨rfl,rfl⟩
         go_wp2_with fail
         go_ret
         exact ⟨by rw[HV.out];rfl,HB.out⟩
 · have e4:((p:Int) == 4)=false:=by rw[beq_eq_false_iff_ne];omega
   have e4n:(p == 4)=false:=by rw[beq_eq_false_iff_ne];omega
   by_cases t0:t=0
   · subst t0
     by_cases p3:p=3
     · subst p3
       by_cases f0:f=0
       · subst f0
         have HV:=hid (HE.out 0 (by simp))
         clear HE HF HT p4
         (try simp only[Int.cast_ofNat_Int] at HB ⊢)
         go_enter Tryz.func163,Tryz.ntmps163
         go_wp2_with fail
         go_ret
         exact ⟨by rw[HV.out];rfl,HB.out⟩
       · have ef:((f:Int) == 0)=false:=by rw[beq_eq_false_iff_ne];omega
         have efn:(f == 0)=false:=by rw[beq_eq_false_iff_ne];omega
         cases hif:zkp f
         · rw[hif] at HF
           have HV:=hid (HE.out 8 (by simp[hif,f0]))
           clear HE HT hif p4 f0
           (try simp only[Int.cast_ofNat_Int] at HB ⊢)
           go_enter Tryz.func163,Tryz.ntmps163
           go_wp2_with fail
           refine (HF.out _).mono ?_
           rintro e w1 ⟨rfl,rfl⟩
           go_wp2_with fail
           go_ret
           exact ⟨by rw[HV.out];rfl,HB.out⟩
         · rw[hif] at HF
           have HV:=hid (HE.out 0 (by simp[hif]))
           clear HE HT hif p4 f0
           (try simp only[Int.cast_ofNat_Int] at HB ⊢)
           go_enter Tryz.func163,Tryz.ntmps163
           go_wp2_with fail
           refine (HF.out _).mono ?_
           rintro e w1 ⟨rfl,rfl⟩
           go_wp2_with fail
           go_ret
           exact ⟨by rw[HV.out];rfl,HB.out⟩
     · have e3:((p:Int) == 3)=false:=by rw[beq_eq_false_iff_ne];omega
       have e3n:(p == 3)=false:=by rw[beq_eq_false_iff_ne];omega
       have p0:(0:Int)≤(p:Int):=by omega
       by_cases pl:p<3
       · have hd:decide ((p:Int)<3)=true:=by rw[decide_eq_true_iff];omega
         have hdn:decide (p<3)=true:=by rw[decide_eq_true_iff];omega
         by_cases f0:f=0
         · subst f0
           have HV:=hid (HE.out 0 (by simp[p4,p3,pl]))
           clear HE HF HT p4 p3 pl
           (try simp only[Int.cast_ofNat_Int] at HB ⊢)
           go_enter Tryz.func163,Tryz.ntmps163
           go_wp2_with fail
           go_ret
           exact ⟨by rw[HV.out];rfl,HB.out⟩
         · have ef:((f:Int) == 0)=false:=by rw[beq_eq_false_iff_ne];omega
           have efn:(f == 0)=false:=by rw[beq_eq_false_iff_ne];omega
           have HV:=hid (HE.out 8 (by simp[p4,p3,pl,f0]))
           clear HE HF HT p4 p3 pl f0
           (try simp only[Int.cast_ofNat_Int] at HB ⊢)
           go_enter Tryz.func163,Tryz.ntmps163
           go_wp2_with fail
           go_ret
           exact ⟨by rw[HV.out];rfl,HB.out⟩
       · have hd:decide ((p:Int)<3)=false:=by rw[decide_eq_false_iff_not];omega
         have hdn:decide (p<3)=false:=by rw[decide_eq_false_iff_not];omega
         have HV:=hid (HE.out 8 (by simp[p4,p3,pl]))
         clear HE HF HT p4 p3 pl
         (try simp only[Int.cast_ofNat_Int] at HB ⊢)
         go_enter Tryz.func163,Tryz.ntmps163
         go_wp2_with fail
         go_ret
         exact ⟨by rw[HV.out];rfl,HB.out⟩
   · have et:((t:Int) != 0)=true:=by rw[bne_iff_ne];omega
     have etn:(t != 0)=true:=by rw[bne_iff_ne];omega
     have HV:=hid (HE.out 8 (by rw[if_neg p4,if_pos t0];rfl))
     clear HE HF HT p4 t0
     (try simp only[Int.cast_ofNat_Int] at HB ⊢)
     go_enter Tryz.func163,Tryz.ntmps163
     go_wp2_with fail
     go_ret
     exact ⟨by rw[HV.out];rfl,HB.out⟩
def ztu (ws:List Nat) (k:Nat):Array Value:=#[.int .i64 (if 0<k then (wd ws 16:Int) else 0),.int .i64 (if 1<k then (wd ws 17:Int) else 0),.int .i64 (if 2<k then (wd ws 18:Int) else 0)]
theorem zBw (ws:List Nat) {k:Nat} (hk:k<3):(ztu ws k).setIfInBounds k (.int .i64 (wd ws (16+k):Int))=ztu ws (k+1):=by
 match k,hk with
 | 0,_=>rfl
 | 1,_=>rfl
 | 2,_=>rfl
theorem zxp (ws:List Nat) {k:Nat} (hk:3≤k):ztu ws (k+1)=ztu ws k:=by
 unfold ztu
 rw[if_pos (by omega),if_pos (by omega),if_pos (by omega),if_pos (by omega),if_pos (by omega),if_pos (by omega)]
theorem zx5 (ws:List Nat) {k:Nat} (hk:k<3):∃ u,(ztu ws k)[k]? = some u:=by
 match k,hk with
 | 0,_=>exact ⟨_,rfl⟩
 | 1,_=>exact ⟨_,rfl⟩
 | 2,_=>exact ⟨_,rfl⟩
def okTo (ws:List Nat) (k:Nat):Prop:=∀ i,i<k→(i<3→wd ws (16+i)≤ws.length)∧(3≤i→wd ws (16+i)=0)
theorem zzk (ws:List Nat):okTo ws 0:=fun i h=>absurd h (by omega)
theorem zBl {ws:List Nat} {k:Nat} (h:okTo ws k) (h1:(k<3→wd ws (16+k)≤ws.length)∧(3≤k→wd ws (16+k)=0)):okTo ws (k+1):=fun i hi=>by
 rcases Nat.lt_or_ge i k with h2|h2
 · exact h i h2
 · have:i=k:=by omega
   subst this;exact h1
theorem zCi {ws:List Nat} (h:okTo ws 8):zh5 ws=true:=by
 rw[zbn]
 exact ⟨⟨(h 0 (by omega)).1 (by omega),(h 1 (by omega)).1 (by omega),(h 2 (by omega)).1 (by omega)⟩,(h 3 (by omega)).2 (by omega),(h 4 (by omega)).2 (by omega),(h 5 (by omega)).2 (by omega),(h 6 (by omega)).2 (by omega),(h 7 (by omega)).2 (by omega)⟩
theorem zxk {ws:List Nat} (h:zah (ws.length:Int)=true) (h2:zh5 ws=false):zcs ws=50∧prV ws=phV 0 0 0:=zr9 h (by rw[h2,Bool.false_and])
theorem zFp {ws:List Nat} (h:zah (ws.length:Int)=true) (h2:zui (wd ws 16) (wd ws 17) (wd ws 18)≠0):zcs ws=50∧prV ws=phV 0 0 0:=zr9 h (by
 unfold zui at h2
 cases hq:zAy (wd ws 16) (wd ws 17) (wd ws 18) with
 | false=>rw[Bool.and_false]
 | true=>rw[hq] at h2;exact absurd rfl h2)
theorem zwf {ws:List Nat} (h:zah (ws.length:Int)=true) (h1:zh5 ws=true) (h2:zui (wd ws 16) (wd ws 17) (wd ws 18)=0):zcs ws=0∧prV ws=phV (wd ws 16) (wd ws 17) (wd ws 18):=zl5 h (by
 unfold zui at h2
 cases hq:zAy (wd ws 16) (wd ws 17) (wd ws 18) with
 | true=>rw[h1];rfl
 | false=>rw[hq] at h2;cases h2)
theorem zbm {fn:Func} {p q:Tmp} (h:fn.results=#[.cell p 107,.tmp q]) (tmps:Array Value) {W:World} {g:Nat} {t:TypeId} {v0 v1 v2 u:Value} (hb:Bx W g t #[v0,v1,v2]) (hp:tmps.getD p undef=.pointer (some ⟨g,0,none⟩)) (hq:tmps.getD q undef=u) :
  (results fn tmps).run Tryz.prog W=.ok (.tuple #[.agg #[v0,v1,v2],u]) W:=by
 obtain ⟨c0,c1,c2,-⟩:=hb.c3
 rw[Array.getD_eq_getD_getElem?] at hp hq
 simp[results,h,hp,hq,go_sem,c0,c1,c2]
set_option maxRecDepth 100000 in
set_option maxHeartbeats 2000000 in
theorem zIm (A:Option Addr) (ws:List Nat) (c n:Nat) (w:World) (hn:ws.length=n) (hm:n≤9223372036854775807) (hc:n≤c) (hr:RdW w w.heap.size A ws) (ho:∀ x ∈ ws,x<18446744073709551616) :
   Calls Tryz.prog 102 #[.slice A n c] w fun e w'=>e=.returned (.tuple #[prV ws,.int .i64 (zcs ws)])∧Below w.heap.size w w':=by
 subst hn
 have HR:=hid hr
 have HO:=hid ho
 clear hr ho
 have b0:=Bx.new w 107 #[.int .i64 0,.int .i64 0,.int .i64 0]
 cases hs:zah (ws.length:Int)
 · have HI:=hid (zbw hs)
   have HV:=hid (zsj hs)
   have HB0:=hid b0
   clear hs b0
   go_enter Tryz.func102,Tryz.ntmps102
   go_wp2_with fail
   refine (zay A ws.length c _ hm).mono ?_
   rintro e w1 ⟨rfl,rfl⟩
   rw[HI.out]
   go_wp2_with fail
   refine bodyPost_ret (v:=.tuple #[.agg #[.int .i64 0,.int .i64 0,.int .i64 0],.int .i64 8]) (zbm Tryz.results102 _ HB0.out rfl rfl) rfl ⟨by rw[HV.out.1,HV.out.2];rfl,(Below.refl _ _).alloc (Nat.le_refl _) _⟩
 · have HI:=hid (zbc hs)
   obtain ⟨hb1,hb2,-⟩:=zf5 ws hs
   have HS:=hid hs
   have HB0:=hid b0
   obtain ⟨b,off,rfl,hb,-⟩:=RdW.at_ HR.out (show 0<ws.length by omega)
   have HC:Hid (∀ k (h:k<8) (W:World),Below w.heap.size w W→W.cell? ⟨b,off+16+k,none⟩=some (.int .u64 (wd ws (16+k):Int))):=hid fun k h W hB=>by
    obtain ⟨b',off',e',-,h0⟩:=RdW.at_ (Rd.below HR.out hB) (show 16+k<ws.length by omega)
    cases e'
    rw[←zcb,←Nat.add_assoc] at h0
    exact h0
   have HLT:Hid (∀ k,wd ws k<18446744073709551616):=hid (ze6 HO.out)
   have hc24:(24:Int)≤(c:Int):=by omega
   have hc16:((c:Int) == 16)=false:=by rw[beq_eq_false_iff_ne];omega
   have hc16n:(c == 16)=false:=by rw[beq_eq_false_iff_ne];omega
   have hne:¬ c=16:=by omega
   clear hs b0
   go_enter Tryz.func102,Tryz.ntmps102
   go_wp2_with fail
   refine (zay _ ws.length c _ hm).mono ?_
   rintro e w1 ⟨rfl,rfl⟩
   rw[HI.out]
   go_wp2_with fail
   go_loopw [20] (fun i wr=>∃ k:Nat,k≤8∧i=.int .i64 k∧Hid (okTo ws k)∧Bx wr w.heap.size 107 #[.int .i64 0,.int .i64 0,.int .i64 0]∧Bx wr (w.heap.size+1) 226 (ztu ws k)∧Below w.heap.size w wr) (fun i _=>8 - (intOf i).toNat)
   case atStart =>
    have x1:=Bx.new (w.alloc (.cells #[.int .i64 0,.int .i64 0,.int .i64 0] 107)) 226 #[.int .i64 0,.int .i64 0,.int .i64 0]
    rw[World.size_alloc] at x1
    exact ⟨0,Nat.zero_le _,rfl,zzk ws,HB0.out.alloc _,x1,((Below.refl _ _).alloc (Nat.le_refl _) _).alloc (by simp) _⟩
   case round =>
    obtain ⟨k,hk,rfl,HOK,b0,b1,hB⟩:=hrel
    have hz:=hB.size
    by_cases hlt:k<8
    · have h0:=HC.out k hlt _ hB
      have hx0:=HLT.out (16+k)
      have HSU:=hid (fun h=>zBl HOK.out h)
      have HBD:=hid (fun h=>zxk HS.out (zGa hlt h))
      have HSET:=hid (fun h=>zBw ws (k:=k) h)
      have HMO:=hid (fun h=>zxp ws (k:=k) h)
      have HCE:=hid (fun h=>zx5 ws (k:=k) h)
      obtain ⟨x,hx⟩:∃ x,wd ws (16+k)=x:=⟨_,rfl⟩
      rw[hx] at h0 hx0 HSU HBD HSET
      have hk1:(k:Int)<8:=by omega
      have hk0:(0:Int)≤(k:Int):=by omega
      have hx1:(0:Int)≤(x:Int):=by omega
      clear hx
      by_cases hk3:k<3
      · have hd3:decide ((k:Int)<3)=true:=by rw[decide_eq_true_iff];omega
        have hd3n:decide (k<3)=true:=by rw[decide_eq_true_iff];omega
        obtain ⟨u,hu⟩:=HCE.out hk3
        by_cases hle:x≤ws.length
        · have hdl:decide ((x:Int)≤(ws.length:Int))=true:=by rw[decide_eq_true_iff];omega
          have hdln:decide (x≤ws.length)=true:=by rw[decide_eq_true_iff];omega
          have HY:=hid (HSU.out ⟨fun _=>hle,fun h=>absurd h (by omega)⟩)
          have HZ:=hid (HSET.out hk3)
          have c1:=(b1.cell k).trans hu
          have f1:=b1.frozen k
          have B0:=hid b0
          have B1:=hid b1
          have hxw:IntKind.i64.wrap (x:Int)=(x:Int):=IntWalk.i64_in _ (by omega)
          clear HSU HBD HSET HMO HCE b0 b1 hu hle
          go_wp2_with fail
          go_roundw
          case rel=>exact ⟨k+1,by omega,by go_num,HY.out,B0.out.far (by simp) _,by rw[←HZ.out];exact B1.out.set_ k _,hB.setCell (by simp) _⟩
          case measure=>simp[intOf];omega
        · have hdl:decide ((x:Int)≤(ws.length:Int))=false:=by rw[decide_eq_false_iff_not];omega
          have hdln:decide (x≤ws.length)=false:=by rw[decide_eq_false_iff_not];exact hle
          have HV:=hid (HBD.out (.inl ⟨hk3,by omega⟩))
          have B0:=hid b0
          obtain ⟨c0,c1,c2,f0,f1,f2,hgl⟩:=b0.c3
          clear HSU HBD HSET HMO HCE b0 b1 hu hle
          go_wp2_with fail
          refine bodyPost_ret (v:=.tuple #[.agg #[.int .i64 0,.int .i64 0,.int .i64 0],.int .i64 50]) (zbm Tryz.results102 _ (((B0.out.set_ 0 _).set_ 1 _).set_ 2 _) rfl rfl) rfl ⟨by rw[HV.out.1,HV.out.2];rfl,((hB.setCell (by simp) _).setCell (by simp) _).setCell (by simp) _⟩
      · have hd3:decide ((k:Int)<3)=false:=by rw[decide_eq_false_iff_not];omega
        have hd3n:decide (k<3)=false:=by rw[decide_eq_false_iff_not];omega
        by_cases hx0':x=0
        · have hxe:((x:Int) != 0)=false:=by rw[bne_eq_false_iff_eq];omega
          have hxen:(x != 0)=false:=by rw[bne_eq_false_iff_eq];exact hx0'
          have HY:=hid (HSU.out ⟨fun h=>absurd h hk3,fun _=>hx0'⟩)
          have HZ:=hid (HMO.out (by omega))
          have B0:=hid b0
          have B1:=hid b1
          clear HSU HBD HSET HMO HCE b0 b1 hx0'
          go_wp2_with fail
          go_roundw
          case rel=>exact ⟨k+1,by omega,by go_num,HY.out,B0.out,by rw[HZ.out];exact B1.out,hB⟩
          case measure=>simp[intOf];omega
        · have hxe:((x:Int) != 0)=true:=by rw[bne_iff_ne];omega
          have hxen:(x != 0)=true:=by rw[bne_iff_ne];exact hx0'
          have HV:=hid (HBD.out (.inr ⟨by omega,hx0'⟩))
          have B0:=hid b0
          obtain ⟨c0,c1,c2,f0,f1,f2,hgl⟩:=b0.c3
          clear HSU HBD HSET HMO HCE b0 b1 hx0'
          go_wp2_with fail
          refine bodyPost_ret (v:=.tuple #[.agg #[.int .i64 0,.int .i64 0,.int .i64 0],.int .i64 50]) (zbm Tryz.results102 _ (((B0.out.set_ 0 _).set_ 1 _).set_ 2 _) rfl rfl) rfl ⟨by rw[HV.out.1,HV.out.2];rfl,((hB.setCell (by simp) _).setCell (by simp) _).setCell (by simp) _⟩
    · obtain rfl:k=8:=by omega
      have HLN:=hid (zCi HOK.out)
      obtain ⟨⟨l0,l1,l2⟩,-⟩:=(zbn ws).1 HLN.out
      have HCK:=hid (fun W=>zFi (wd ws 16) (wd ws 17) (wd ws 18) W (by omega) (by omega) (by omega))
      have HG1:=hid (fun h=>zFp HS.out h)
      have HG2:=hid (fun h=>zwf HS.out HLN.out h)
      have b1':Bx wr (w.heap.size+1) 226 #[.int .i64 (wd ws 16:Int),.int .i64 (wd ws 17:Int),.int .i64 (wd ws 18:Int)]:=b1
      obtain ⟨c0,c1,c2,-⟩:=b1'.c3
      obtain ⟨q0,q1,q2,f0,f1,f2,hgl⟩:=b0.c3
      unfold phV at HCK HG2
      obtain ⟨x,hx⟩:∃ x,wd ws 16=x:=⟨_,rfl⟩
      obtain ⟨y,hy⟩:∃ y,wd ws 17=y:=⟨_,rfl⟩
      obtain ⟨z,hz'⟩:∃ z,wd ws 18=z:=⟨_,rfl⟩
      rw[hx,hy,hz'] at HCK HG1 HG2
      rw[hx] at c0
      rw[hy] at c1
      rw[hz'] at c2
      have B0:=hid b0
      have HB:=hid hB
      clear b0 b1 b1' l0 l1 l2 hx hy hz'
      obtain ⟨r,hr⟩:∃ r,zui x y z=r:=⟨_,rfl⟩
      rw[hr] at HCK HG1 HG2
      clear hr
      go_wp2_with fail
      refine (HCK.out _).mono ?_
      rintro e w2 ⟨rfl,hB2⟩
      rw[World.size_alloc] at hB2
      have hb2:=zan hB2
      have b3:=hid (B0.out.up hb2 hgl)
      have n3:=Bx.of_new hB2
      obtain ⟨q0,q1,q2,f0,f1,f2,hgl2⟩:=b3.out.c3
      obtain ⟨n0,n1,n2,-⟩:=n3.c3
      have HB2:=hid (HB.out.trans (hb2.mono HB.out.size))
      clear hB2 hb2 n3
      by_cases hr0:r=0
      · have HV:=hid (HG2.out hr0)
        subst hr0
        go_wp2_with fail
        refine bodyPost_ret (v:=.tuple #[.agg #[.int .i64 (x:Int),.int .i64 (y:Int),.int .i64 (z:Int)],.int .i64 0]) (zbm Tryz.results102 _ (((b3.out.set_ 0 _).set_ 1 _).set_ 2 _) rfl rfl) rfl ⟨by rw[HV.out.1,HV.out.2],((HB2.out.setCell (by simp) _).setCell (by simp) _).setCell (by simp) _⟩
      · have HV:=hid (HG1.out hr0)
        have hrn:(r != 0)=true:=by rw[bne_iff_ne];exact hr0
        clear hr0
        go_wp2_with fail
        refine bodyPost_ret (v:=.tuple #[.agg #[.int .i64 0,.int .i64 0,.int .i64 0],.int .i64 50]) (zbm Tryz.results102 _ (((b3.out.set_ 0 _).set_ 1 _).set_ 2 _) rfl rfl) rfl ⟨by rw[HV.out.1,HV.out.2];rfl,((HB2.out.setCell (by simp) _).setCell (by simp) _).setCell (by simp) _⟩
end Go.Proofs.YtpcajamacpbjcaaGreat
namespace Go.Proofs.YtpcajamacpbjcaaGreat
open Lib (hid)
open Go.RowKit
def noAt (l:List Bk) (f:Nat) (k:Nat):Prop:=∀ j,j<k→(gk l j).at_≠(f:Int)
theorem zA7 (l:List Bk) (f:Nat):noAt l f 0:=fun j h=>absurd h (by omega)
theorem zz7 {l:List Bk} {f k:Nat} (h:noAt l f k) (h2:(gk l k).at_≠(f:Int)):noAt l f (k+1):=fun j hj=>by
 rcases Nat.lt_or_ge j k with h3|h3
 · exact h j h3
 · have:j=k:=by omega
   subst this;exact h2
theorem bd_no {ws:List Nat} (hs:zah (ws.length:Int)=true) (h:zca ws 128≠0) (f:Nat):zo1 ws f=false:=by
 unfold zo1
 cases hb:blocks ws 128 with
 | none=>rfl
 | some l=>exact absurd (zci hs (zgr hs) hb).1 h
theorem bd_at {ws:List Nat} {l:List Bk} (hb:blocks ws 128=some l) {k f:Nat} (hk:k<l.length) (h:(gk l k).at_=(f:Int)):zo1 ws f=true:=by
 unfold zo1
 rw[hb]
 simp only[Bool.or_eq_true,List.any_eq_true]
 refine .inl ⟨l[k],List.getElem_mem hk,?_⟩
 rw[zbt l k hk] at h
 rw[beq_iff_eq];exact h
theorem bd_end {ws:List Nat} {l:List Bk} (hb:blocks ws 128=some l) {f:Nat} (h:noAt l f l.length):zo1 ws f=(f == ws.length):=by
 unfold zo1
 rw[hb]
 have:l.any (fun b=>b.at_ == (f:Int))=false:=by
  rw[List.any_eq_false]
  intro b hm
  obtain ⟨k,hk,rfl⟩:=List.getElem_of_mem hm
  have:=h k hk
  rw[zbt l k hk] at this
  rw[beq_iff_eq];exact this
 show (l.any (fun b=>b.at_ == (f:Int)) || f == ws.length)=_
 rw[this,Bool.false_or]
set_option maxRecDepth 100000 in
set_option maxHeartbeats 2000000 in
theorem zx4 (A:Option Addr) (ws:List Nat) (c n f:Nat) (w:World) (hn:ws.length=n) (hs:zah (n:Int)=true) (hr:RdW w w.heap.size A ws) (ho:∀ x ∈ ws,x<18446744073709551616) :
   Calls Tryz.prog 103 #[.slice A n c,.int .i64 (f:Int)] w fun e w'=>e=.returned (.bool (zo1 ws f))∧Below w.heap.size w w':=by
 subst hn
 have hbd:=zf5 ws hs
 have HC:=hid (zlm A ws c ws.length 128 w rfl (by omega) hr ho)
 unfold zph at HC
 have HNO:=hid (fun h=>bd_no hs h f)
 have HOK:Hid (zca ws 128=0→blocks ws 128=some (za5 ws 128)):=hid fun h=>(zDv h).2
 have hlen:=zgx ws 128
 obtain ⟨r,hr'⟩:∃ r,zca ws 128=r:=⟨_,rfl⟩
 obtain ⟨l,hl⟩:∃ l,za5 ws 128=l:=⟨_,rfl⟩
 rw[hr',hl] at HC HOK
 rw[hl] at hlen
 rw[hr'] at HNO
 clear hr' hl hr ho hs hbd
 by_cases hr0:r=0
 · subst hr0
   have HAT:=hid (fun k (h:k<l.length) h2=>bd_at (HOK.out rfl) h h2 (f:=f))
   have HEN:=hid (fun h=>bd_end (HOK.out rfl) (f:=f) h)
   clear HNO HOK
   go_enter Tryz.func103,Tryz.ntmps103
   go_wp2_with fail
   refine HC.out.mono ?_
   rintro e w1 ⟨⟨A1,c1,rfl,hrd,-⟩,hB1⟩
   have hz1:=hB1.size
   have HRD:=hid hrd
   clear hrd
   go_wp2_with fail
   go_loopw [18] (fun i wr=>∃ k:Nat,k≤l.length∧i=.int .i64 k∧Hid (noAt l f k)∧Below w1.heap.size w1 wr) (fun i _=>l.length - (intOf i).toNat)
   case atStart=>exact ⟨0,Nat.zero_le _,rfl,zA7 l f,Below.refl _ _⟩
   case round =>
    obtain ⟨k,hk,rfl,HN,hB⟩:=hrel
    have hz:=hB.size
    by_cases hlt:k<l.length
    · obtain ⟨b,off,rfl,hbw,q0,q1,q2,q3,q4,q5⟩:=RdB.at_ (HRD.out.below hB) hlt
      have HS:=hid (fun h=>zz7 HN.out h)
      have HA:=hid (fun h=>HAT.out k hlt h)
      rw[zbt l k hlt] at HS HA
      obtain ⟨x,hx⟩:∃ x,l[k]=x:=⟨_,rfl⟩
      rw[hx] at q0 q1 q2 q3 q4 q5 HS HA
      obtain ⟨xa,xs,xk,xt,xm,xn⟩:=x
      dsimp only at q0 q1 q2 q3 q4 q5 HS HA
      have hlm:(k:Int)<(l.length:Int):=by omega
      clear hx
      by_cases hxa:xa=(f:Int)
      · have e1:(xa == (f:Int))=true:=by rw[beq_iff_eq];exact hxa
        have HY:=hid (HA.out hxa)
        clear hxa
        go_wp2_with fail
        go_ret
        exact ⟨by rw[HY.out];rfl,hB1.trans ((hB.alloc hz _).mono hz1)⟩
      · have e1:(xa == (f:Int))=false:=by rw[beq_eq_false_iff_ne];exact hxa
        have HY:=hid (HS.out hxa)
        clear hxa
        go_wp2_with fail
        go_roundw
        case rel=>exact ⟨k+1,by omega,by go_num,HY.out,hB.alloc hz _⟩
        case measure=>simp[intOf];omega
    · have HY:=hid (HEN.out (by have:=HN.out;rwa [show k=l.length by omega] at this))
      have hfi:((f:Int) == (ws.length:Int))=(f == ws.length):=by rw[Bool.eq_iff_iff,beq_iff_eq,beq_iff_eq];omega
      have HFI:=hid hfi
      clear hfi
      go_wp2_with fail
      go_ret
      exact ⟨by rw[HY.out,←HFI.out];rfl,hB1.trans (hB.mono hz1)⟩
 · have hn1:(r != 0)=true:=by rw[bne_iff_ne];exact hr0
   have HY:=hid (HNO.out hr0)
   clear hr0 HNO HOK
   go_enter Tryz.func103,Tryz.ntmps103
   go_wp2_with fail
   refine HC.out.mono ?_
   rintro e w1 ⟨⟨A1,c1,rfl,-,-⟩,hB1⟩
   go_wp2_with fail
   go_ret
   exact ⟨by rw[HY.out];rfl,hB1⟩
theorem zul {ws:List Nat} {r:Int} (h:zcs ws=r) (h0:r≠0):zcx ws=r∧lnV ws=phV 0 0 0:=by
 subst h
 simp[zcx,lnV,h0]
theorem zF7 {ws:List Nat} (h:zcs ws=0) (h1:wd ws 16=3) (h2:wd ws 17≠0) (h3:zo1 ws (wd ws 17)=false):zcx ws=50∧lnV ws=phV 0 0 0:=by
 simp[zcx,lnV,h,h1,h2,h3]
theorem zHg {ws:List Nat} (h:zcs ws=0) (h3:wd ws 16=3→wd ws 17≠0→zo1 ws (wd ws 17)=true):zcx ws=0∧lnV ws=phV (wd ws 16) (wd ws 17) (wd ws 18):=by
 have:zcx ws=0:=by
  unfold zcx
  rw[if_pos h,if_neg]
  rintro ⟨a,b,c⟩
  rw[h3 a b] at c;cases c
 simp[lnV,this]
set_option maxRecDepth 100000 in
set_option maxHeartbeats 2000000 in
theorem zvf (A:Option Addr) (ws:List Nat) (c n:Nat) (w:World) (hn:ws.length=n) (hm:n≤9223372036854775807) (hc:n≤c) (hr:RdW w w.heap.size A ws) (ho:∀ x ∈ ws,x<18446744073709551616) :
   Calls Tryz.prog 55 #[.slice A n c] w fun e w'=>e=.returned (.tuple #[lnV ws,.int .i64 (zcx ws)])∧Below w.heap.size w w':=by
 subst hn
 have HR:=hid hr
 have HO:=hid ho
 clear hr ho
 have b0:=Bx.new w 107 #[.int .i64 0,.int .i64 0,.int .i64 0]
 cases hs:zah (ws.length:Int)
 · have HI:=hid (zbw hs)
   have HV:=hid (zul (zsj hs).1 (by omega))
   have HB0:=hid b0
   clear hs b0
   go_enter Tryz.func55,Tryz.ntmps55
   go_wp2_with fail
   refine (zay A ws.length c _ hm).mono ?_
   rintro e w1 ⟨rfl,rfl⟩
   rw[HI.out]
   go_wp2_with fail
   refine bodyPost_ret (v:=.tuple #[.agg #[.int .i64 0,.int .i64 0,.int .i64 0],.int .i64 8]) (zbm Tryz.results55 _ HB0.out rfl rfl) rfl ⟨by rw[HV.out.1,HV.out.2];rfl,(Below.refl _ _).alloc (Nat.le_refl _) _⟩
 · have HI:=hid (zbc hs)
   have HS:=hid hs
   have HC:=hid (zIm A ws c ws.length (w.alloc (.cells #[.int .i64 0,.int .i64 0,.int .i64 0] 107)) rfl hm hc ((HR.out.alloc (Nat.le_refl _) _).more (by simp)) HO.out)
   rw[World.size_alloc] at HC
   have HL1:Hid (∀ r,zcs ws=r→r≠0→zcx ws=r∧lnV ws=phV 0 0 0):=hid fun r h h0=>zul h h0
   have hval:=zsm ws
   clear hs b0
   by_cases hp0:zcs ws=0
   · have HL2:=hid (fun h1 h2 h3=>zF7 hp0 h1 h2 h3)
     have HL3:=hid (fun h1=>zHg hp0 h1)
     obtain ⟨g1,g2⟩:=zl5 HS.out (by have:=(zfs hp0).2;rw[this.1,this.2];rfl)
     rw[g1,g2] at HC
     have HBC:=hid (fun W (h:RdW W W.heap.size A ws)=>zx4 A ws c ws.length (wd ws 17) W rfl HS.out h HO.out)
     unfold phV at HC HL3
     obtain ⟨x,hx⟩:∃ x,wd ws 16=x:=⟨_,rfl⟩
     obtain ⟨y,hy⟩:∃ y,wd ws 17=y:=⟨_,rfl⟩
     obtain ⟨z,hz⟩:∃ z,wd ws 18=z:=⟨_,rfl⟩
     obtain ⟨bd,hbd⟩:∃ bd,zo1 ws y=bd:=⟨_,rfl⟩
     rw[hx,hy,hz] at HC HL3
     rw[hx,hy] at HL2
     rw[hy] at HBC
     rw[hbd] at HBC HL2 HL3
     clear hp0 g1 g2 hx hy hz hbd HL1 hval
     have hB0:∀ (w1:World),Below (w.heap.size+1) (w.alloc (.cells #[.int .i64 0,.int .i64 0,.int .i64 0] 107)) w1→RdW (w1.alloc (.cells #[.int .i64 (x:Int),.int .i64 (y:Int),.int .i64 (z:Int)] 107)) (w1.alloc (.cells #[.int .i64 (x:Int),.int .i64 (y:Int),.int .i64 (z:Int)] 107)).heap.size A ws:=fun w1 h=>by
       have h2:=zan h
       exact ((HR.out.up h2 h2.size).alloc (Nat.le_refl _) _).more (by simp)
     have HB0:=hid hB0
     clear hB0
     by_cases x3:x=3
     · have e1:((x:Int) == 3)=true:=by rw[beq_iff_eq];omega
       have e1n:(x == 3)=true:=by rw[beq_iff_eq];exact x3
       by_cases y0:y=0
       · have e2:((y:Int) != 0)=false:=by rw[bne_eq_false_iff_eq];omega
         have e2n:(y != 0)=false:=by rw[bne_eq_false_iff_eq];exact y0
         have HV:=hid (HL3.out (fun _ h=>absurd y0 h))
         clear HL2 HL3 x3 y0
         go_enter Tryz.func55,Tryz.ntmps55
         go_wp2_with fail
         refine (zay A ws.length c _ hm).mono ?_
         rintro e w1 ⟨rfl,rfl⟩
         rw[HI.out]
         go_wp2_with fail
         refine HC.out.mono ?_
         rintro e w1 ⟨rfl,hB1⟩
         have HRW:=hid (HB0.out _ hB1)
         have b1:=Bx.of_new hB1
         have hb1:=zan hB1
         have B1:=hid b1
         have HB1:=hid hb1
         obtain ⟨q0,q1,q2,f0,f1,f2,hgl⟩:=b1.c3
         clear hB1 hb1 b1
         go_wp2_with fail
         exact bodyPost_ret (v:=.tuple #[.agg #[.int .i64 (x:Int),.int .i64 (y:Int),.int .i64 (z:Int)],.int .i64 0]) (zbm Tryz.results55 _ ((((B1.out.set_ 0 _).set_ 1 _).set_ 2 _).alloc _) rfl rfl) rfl ⟨by rw[HV.out.1,HV.out.2],(((HB1.out.setCell (Nat.le_refl _) _).setCell (Nat.le_refl _) _).setCell (Nat.le_refl _) _).alloc (by simp;exact HB1.out.size) _⟩
       · have e2:((y:Int) != 0)=true:=by rw[bne_iff_ne];omega
         have e2n:(y != 0)=true:=by rw[bne_iff_ne];exact y0
         cases bd
         · have HV:=hid (HL2.out x3 y0 rfl)
           clear HL2 HL3 x3 y0
           go_enter Tryz.func55,Tryz.ntmps55
           go_wp2_with fail
           refine (zay A ws.length c _ hm).mono ?_
           rintro e w1 ⟨rfl,rfl⟩
           rw[HI.out]
           go_wp2_with fail
           refine HC.out.mono ?_
           rintro e w1 ⟨rfl,hB1⟩
           have HRW:=hid (HB0.out _ hB1)
           have b1:=Bx.of_new hB1
           have hb1:=zan hB1
           have B1:=hid b1
           have HB1:=hid hb1
           obtain ⟨q0,q1,q2,f0,f1,f2,hgl⟩:=b1.c3
           clear hB1 hb1 b1
           go_wp2_with fail
           refine (HBC.out _ HRW.out).mono ?_
           rintro e w2 ⟨rfl,hB2⟩
           rw[World.size_alloc] at hB2
           have n2:=Bx.of_new hB2
           have hb2:=zan hB2
           have B2:=hid (B1.out.up hb2 hgl)
           have HB2:=hid (HB1.out.trans (hb2.mono HB1.out.size))
           obtain ⟨q0,q1,q2,f0,f1,f2,hgl2⟩:=B2.out.c3
           obtain ⟨n0,n1,n2',-⟩:=n2.c3
           clear hB2 hb2 n2
           go_wp2_with fail
           exact bodyPost_ret (v:=.tuple #[.agg #[.int .i64 0,.int .i64 0,.int .i64 0],.int .i64 50]) (zbm Tryz.results55 _ (((B2.out.set_ 0 _).set_ 1 _).set_ 2 _) rfl rfl) rfl ⟨by rw[HV.out.1,HV.out.2];rfl,((HB2.out.setCell (Nat.le_refl _) _).setCell (Nat.le_refl _) _).setCell (Nat.le_refl _) _⟩
         · have HV:=hid (HL3.out (fun _ _=>rfl))
           clear HL2 HL3 x3 y0
           go_enter Tryz.func55,Tryz.ntmps55
           go_wp2_with fail
           refine (zay A ws.length c _ hm).mono ?_
           rintro e w1 ⟨rfl,rfl⟩
           rw[HI.out]
           go_wp2_with fail
           refine HC.out.mono ?_
           rintro e w1 ⟨rfl,hB1⟩
           have HRW:=hid (HB0.out _ hB1)
           have b1:=Bx.of_new hB1
           have hb1:=zan hB1
           have B1:=hid b1
           have HB1:=hid hb1
           obtain ⟨q0,q1,q2,f0,f1,f2,hgl⟩:=b1.c3
           clear hB1 hb1 b1
           go_wp2_with fail
           refine (HBC.out _ HRW.out).mono ?_
           rintro e w2 ⟨rfl,hB2⟩
           rw[World.size_alloc] at hB2
           have n2:=Bx.of_new hB2
           have hb2:=zan hB2
           have B2:=hid (B1.out.up hb2 hgl)
           have HB2:=hid (HB1.out.trans (hb2.mono HB1.out.size))
           obtain ⟨q0,q1,q2,f0,f1,f2,hgl2⟩:=B2.out.c3
           obtain ⟨n0,n1,n2',-⟩:=n2.c3
           clear hB2 hb2 n2
           go_wp2_with fail
           exact bodyPost_ret (v:=.tuple #[.agg #[.int .i64 (x:Int),.int .i64 (y:Int),.int .i64 (z:Int)],.int .i64 0]) (zbm Tryz.results55 _ (((B2.out.set_ 0 _).set_ 1 _).set_ 2 _) rfl rfl) rfl ⟨by rw[HV.out.1,HV.out.2],((HB2.out.setCell (Nat.le_refl _) _).setCell (Nat.le_refl _) _).setCell (Nat.le_refl _) _⟩
     · have e1:((x:Int) == 3)=false:=by rw[beq_eq_false_iff_ne];omega
       have e1n:(x == 3)=false:=by rw[beq_eq_false_iff_ne];exact x3
       have HV:=hid (HL3.out (fun h=>absurd h x3))
       clear HL2 HL3 x3
       go_enter Tryz.func55,Tryz.ntmps55
       go_wp2_with fail
       refine (zay A ws.length c _ hm).mono ?_
       rintro e w1 ⟨rfl,rfl⟩
       rw[HI.out]
       go_wp2_with fail
       refine HC.out.mono ?_
       rintro e w1 ⟨rfl,hB1⟩
       have HRW:=hid (HB0.out _ hB1)
       have b1:=Bx.of_new hB1
       have hb1:=zan hB1
       have B1:=hid b1
       have HB1:=hid hb1
       obtain ⟨q0,q1,q2,f0,f1,f2,hgl⟩:=b1.c3
       clear hB1 hb1 b1
       go_wp2_with fail
       exact bodyPost_ret (v:=.tuple #[.agg #[.int .i64 (x:Int),.int .i64 (y:Int),.int .i64 (z:Int)],.int .i64 0]) (zbm Tryz.results55 _ ((((B1.out.set_ 0 _).set_ 1 _).set_ 2 _).alloc _) rfl rfl) rfl ⟨by rw[HV.out.1,HV.out.2],(((HB1.out.setCell (Nat.le_refl _) _).setCell (Nat.le_refl _) _).setCell (Nat.le_refl _) _).alloc (by simp;exact HB1.out.size) _⟩
   · obtain ⟨r,hr⟩:∃ r,zcs ws=r:=⟨_,rfl⟩
     have HV:=hid (HL1.out r hr (by rw[←hr];exact hp0))
     have hv:prV ws=phV 0 0 0:=by simp[prV,hp0]
     rw[hr,hv] at HC
     rw[hr] at hp0 hval
     have hn1:(r != 0)=true:=by rw[bne_iff_ne];exact hp0
     unfold phV at HC
     have HB0:Hid (∀ w1:World,Below (w.heap.size+1) (w.alloc (.cells #[.int .i64 0,.int .i64 0,.int .i64 0] 107)) w1→True):=hid fun _ _=>trivial
     clear hp0 hr HL1 hv
     go_enter Tryz.func55,Tryz.ntmps55
     go_wp2_with fail
     refine (zay A ws.length c _ hm).mono ?_
     rintro e w1 ⟨rfl,rfl⟩
     rw[HI.out]
     go_wp2_with fail
     refine HC.out.mono ?_
     rintro e w1 ⟨rfl,hB1⟩
     have HRW:=hid (HB0.out _ hB1)
     have b1:=Bx.of_new hB1
     have hb1:=zan hB1
     have B1:=hid b1
     have HB1:=hid hb1
     obtain ⟨q0,q1,q2,f0,f1,f2,hgl⟩:=b1.c3
     clear hB1 hb1 b1
     go_wp2_with fail
     exact bodyPost_ret (v:=.tuple #[.agg #[.int .i64 0,.int .i64 0,.int .i64 0],.int .i64 r]) (zbm Tryz.results55 _ ((((B1.out.set_ 0 _).set_ 1 _).set_ 2 _).alloc _) rfl rfl) rfl ⟨by rw[HV.out.1,HV.out.2];rfl,(((HB1.out.setCell (Nat.le_refl _) _).setCell (Nat.le_refl _) _).setCell (Nat.le_refl _) _).alloc (by simp;exact HB1.out.size) _⟩
end Go.Proofs.YtpcajamacpbjcaaGreat
namespace Go.Proofs.YtpcajamacpbjcaaGreat
open Lib (hid)
open Go.RowKit
theorem zJj {ws:List Nat} {i:Nat} (h:zar (wd ws i)=false):zpy ws i=false:=by unfold zpy;rw[h,Bool.false_and]
theorem zHj {ws:List Nat} {i:Nat} (h:zar (wd ws i)=true):zpy ws i=((zaf (wd ws i)).kind == 1 && (!(zaf (wd ws i)).mark && zc2 ws (zaf (wd ws i)))):=by unfold zpy;rw[h,Bool.true_and]
theorem zJt {x:Nat} (h:zar x=true) (hk:(zaf x).kind=1):(zaf x).typ<8:=by
 unfold zar at h
 simp only[Bool.and_eq_true] at h
 have:=(zbo _).1 h.1
 omega
set_option maxRecDepth 100000 in
set_option maxHeartbeats 4000000 in
theorem zLd (A:Option Addr) (ws:List Nat) (c n t:Nat) (w:World) (hn:ws.length=n) (hm:n≤1000000) (h2:256≤n) (ht:t≤n) (hr:RdW w w.heap.size A ws) (ho:∀ x ∈ ws,x<18446744073709551616) :
  Calls Tryz.prog 160 #[.slice A n c,.int .i64 (t:Int)] w fun e w'=>e=.returned (.bool (mvd ws 128 t))∧Below w.heap.size w w':=by
 subst hn
 have HR:=hid hr
 have HLT:Hid (∀ k,wd ws k<18446744073709551616):=hid (ze6 ho)
 obtain ⟨b,off,rfl,hb,-⟩:=RdW.at_ hr (show 0<ws.length by omega)
 have HCL:Hid (∀ k (h:k<ws.length) (W:World),Below w.heap.size w W→W.cell? ⟨b,off+k,none⟩=some (.int .u64 (wd ws k:Int))):=hid fun k h W hB=>by
  obtain ⟨b',off',e',-,h0⟩:=RdW.at_ (Rd.below HR.out hB) h
  cases e'
  rw[←zcb] at h0
  exact h0
 have HTD:=hid (fun xa xs xk (t:Nat) xm xn=>zwd ws xa xs xk t xm xn)
 clear hr ho
 obtain ⟨V,hV⟩:∃ V,mvd ws 128 t=V:=⟨_,rfl⟩
 have HV:=hid hV
 rw[hV]
 clear hV
 go_enter Tryz.func160,Tryz.ntmps160
 go_wp2_with fail
 go_loopw [5] (fun a wr=>∃ i:Nat,128≤i∧i≤1000020∧a=.int .i64 i∧Hid (V=mvd ws i t)∧Below w.heap.size w wr) (fun a _=>t - (intOf a).toNat)
 case atStart=>exact ⟨128,by omega,by omega,rfl,hid HV.out.symm,Below.refl _ _⟩
 case round =>
  obtain ⟨i,hi,hi2,rfl,HI,hB⟩:=hrel
  have hz:=hB.size
  by_cases hlt:i<t
  · have HNO:=hid (fun h=>zs5 (ws:=ws) (t:=t) hlt h)
    have HST:=hid (fun h=>zjs (ws:=ws) (t:=t) hlt h)
    have HMN:=hid (fun h=>zJj (ws:=ws) (i:=i) h)
    have HMR:=hid (fun h=>zHj (ws:=ws) (i:=i) h)
    have HTY:=hid (fun h hk=>zJt (x:=wd ws i) h hk)
    have HSP:=hid (fun W=>znq (wd ws i) W (HLT.out i))
    have p0:=HCL.out i (by omega) _ hB
    have hit:(i:Int)<(t:Int):=by omega
    have hi0:(0:Int)≤(i:Int):=by omega
    have hin:(i:Int)<(ws.length:Int):=by omega
    have HSZ:Hid (szAt ws i=(zaf (wd ws i)).size.toNat):=hid rfl
    have HRW:Hid (0≤(zaf (wd ws i)).size∧(zaf (wd ws i)).size≤65535∧0≤(zaf (wd ws i)).typ):=hid (by
      have h1:wd ws i / 65536 % 65536<65536:=Nat.mod_lt _ (by omega)
      unfold zaf;dsimp only;omega)
    have HS2:=hid (fun h=>zkv (ws:=ws) (i:=i) h)
    obtain ⟨x,hx⟩:∃ x,wd ws i=x:=⟨_,rfl⟩
    rw[hx] at p0 HMN HMR HTY HSP HSZ HRW
    clear hx
    cases hs:zar x
    · rw[(zln hs).1,(zln hs).2] at HSP
      unfold zlv Bk.val at HSP
      dsimp only at HSP
      have HY:=hid (HI.out.trans (HNO.out (HMN.out hs)))
      clear hs HNO HST HMN HMR HTY
      go_wp2_with fail
      refine (HSP.out _).mono ?_
      rintro e w1 ⟨rfl,hB1⟩
      have hb1:=hB.trans (hB1.mono hz)
      go_wp2_with fail
      go_ret
      exact ⟨by rw[HY.out];rfl,hb1.alloc hb1.size _⟩
    · have HSO:=hid hs
      rw[(zlq hs).1,(zlq hs).2] at HSP
      have HMQ:=hid (HMR.out hs)
      have HTY2:=hid (fun hk=>HTY.out hs hk)
      clear hs HMN HMR HTY
      obtain ⟨y,hy⟩:∃ y,zaf x=y:=⟨_,rfl⟩
      have hya:y.at_=0∧y.next=0:=by rw[←hy];exact ⟨rfl,rfl⟩
      rw[hy] at HSP HMQ HTY2 HSZ HRW
      clear hy
      obtain ⟨xa,xs,xk,xt,xm,xn⟩:=y
      dsimp only at hya HMQ HTY2 HSZ HRW
      obtain ⟨rfl,rfl⟩:=hya
      unfold Bk.val at HSP
      dsimp only at HSP
      by_cases hk1:xk=1
      · have ek:(xk != 1)=false:=by rw[bne_eq_false_iff_eq];exact hk1
        have ek2:(xk == 1)=true:=by rw[beq_iff_eq];exact hk1
        have ht8:=HTY2.out hk1
        obtain ⟨r1,r2,r3⟩:=HRW.out
        obtain ⟨u,rfl⟩:=Int.eq_ofNat_of_zero_le r3
        obtain ⟨sz,rfl⟩:=Int.eq_ofNat_of_zero_le r1
        rw[Int.toNat_natCast] at HSZ
        rw[ek2,Bool.true_and] at HMQ
        clear hk1 HTY2 r1 r3
        cases xm
        · rw[Bool.not_false,Bool.true_and,HTD.out] at HMQ
          have hx1:=HLT.out (96+2 * u)
          have hy1:=HLT.out (96+2 * u+1)
          have HC:=hid (fun W=>zqh (wd ws (96+2 * u)) (wd ws (96+2 * u+1)) W hx1 hy1)
          have HK:=hid (zlz (wd ws (96+2 * u)) (wd ws (96+2 * u+1)))
          have hmx:=zjm (wd ws (96+2 * u)) (wd ws (96+2 * u+1))
          have HKN:=hid (znp (wd ws (96+2 * u)) (wd ws (96+2 * u+1)))
          have HP0:=hid (HCL.out (96+2 * u) (by omega))
          have HP1:=hid (HCL.out (96+2 * u+1) (by omega))
          obtain ⟨tx,hx2⟩:∃ x,wd ws (96+2 * u)=x:=⟨_,rfl⟩
          obtain ⟨ty,hy2⟩:∃ y,wd ws (96+2 * u+1)=y:=⟨_,rfl⟩
          rw[hx2] at HP0 HC HK HKN hmx HMQ
          rw[hy2] at HP1 HC HK HKN hmx HMQ
          clear hx2 hy2 hx1 hy1
          have t0:(0:Int)≤(u:Int):=by omega
          have w1:IntKind.i64.wrap (2 * (u:Int))=2 * (u:Int):=IntWalk.i64_in _ (by omega)
          have w2:IntKind.i64.wrap (96+2 * (u:Int))=96+2 * (u:Int):=IntWalk.i64_in _ (by omega)
          have w3:IntKind.i64.wrap (96+2 * (u:Int)+1)=96+2 * (u:Int)+1:=IntWalk.i64_in _ (by omega)
          have i1:(0:Int)≤96+2 * (u:Int):=by omega
          have i2:(96:Int)+2 * (u:Int)<(ws.length:Int):=by omega
          have i3:(0:Int)≤96+2 * (u:Int)+1:=by omega
          have i4:(96:Int)+2 * (u:Int)+1<(ws.length:Int):=by omega
          have n1:((96:Int)+2 * (u:Int)).toNat=96+2 * u:=by omega
          have n2:((96:Int)+2 * (u:Int)+1).toNat=96+2 * u+1:=by omega
          go_wp2_with fail
          refine (HSP.out _).mono ?_
          rintro e w1 ⟨rfl,hB1⟩
          have hb1:=hB.trans (hB1.mono hz)
          have hbw:=hb1.alloc hb1.size (.cells #[.int .i64 0,.int .i64 (sz:Int),.int .i64 xk,.int .i64 (u:Int),.bool false,.int .u64 ((0:Nat):Int)] 55)
          have bx:=Bx.new w1 55 #[.int .i64 0,.int .i64 (sz:Int),.int .i64 xk,.int .i64 (u:Int),.bool false,.int .u64 ((0:Nat):Int)]
          have hsw:(w1.alloc (.cells #[.int .i64 0,.int .i64 (sz:Int),.int .i64 xk,.int .i64 (u:Int),.bool false,.int .u64 ((0:Nat):Int)] 55)).heap.size=w1.heap.size+1:=by simp
          have hw1:=hb1.size
          simp only[Int.cast_ofNat_Int] at bx hbw hsw
          clear p0 hB1 hb1
          go_wp2_with fail
          obtain ⟨W0,hW0⟩:∃ W0,w1.alloc (.cells #[.int .i64 0,.int .i64 (sz:Int),.int .i64 xk,.int .i64 (u:Int),.bool false,.int .u64 0] 55)=W0:=⟨_,rfl⟩
          rw[hW0] at bx hbw hsw ⊢
          clear hW0
          have h0:=HP0.out _ hbw
          have h1:=HP1.out _ hbw
          have b3:W0.cell? ⟨w1.heap.size,3,none⟩=some (.int .i64 (u:Int)):=bx.cell 3
          have hbb:b<W0.heap.size:=by omega
          have hgg:w1.heap.size<W0.heap.size:=by omega
          have BX:=hid bx
          have HBW:=hid hbw
          clear bx hbw hsw
          go_region_held3 (fun X:World=>X.cell? ⟨b,off+(96+2 * u),none⟩=some (.int .u64 (tx:Int))∧X.cell? ⟨b,off+(96+2 * u+1),none⟩=some (.int .u64 (ty:Int))∧X.cell? ⟨w1.heap.size,3,none⟩=some (.int .i64 (u:Int))) (go_keep)
            (first | (go_at_call 117;refine (HC.out _).mono ?_;rintro e w5 ⟨⟨A1,c1,rfl,hrd,hcl⟩,hB5⟩;have m0:=(hB5.cell (p:=⟨b,off+(96+2 * u),none⟩) hbb).trans h0;have m1:=(hB5.cell (p:=⟨b,off+(96+2 * u+1),none⟩) hbb).trans h1;have m2:=(hB5.cell (p:=⟨w1.heap.size,3,none⟩) hgg).trans b3;have HRD:=hid hrd;have HB5:=hid hB5;clear hrd hcl))
          have hsz:=ztc A1 (zbd tx ty) c1 (zbd tx ty).length w5.heap.size w5 rfl (by omega) HRD.out
          have hks:kSz (zbd tx ty)=za8 (zbd tx ty).length:=by simp[kSz,HKN.out]
          rw[HKN.out,hks] at hsz
          have HSZ3:=hid hsz
          have c1x:w5.cell? ⟨w1.heap.size,1,none⟩=some (.int .i64 (sz:Int)):=(HB5.out.cell (p:=⟨w1.heap.size,1,none⟩) hgg).trans (BX.out.cell 1)
          have HB6:=hid (HBW.out.trans ((Below.refl _ _).drew.trans (HB5.out.mono (by show _≤W0.heap.size;omega))))
          obtain ⟨m,hm2⟩:∃ m,(zbd tx ty).length=m:=⟨_,rfl⟩
          rw[hm2] at HMQ HSZ3 hmx ⊢
          have hob:za8 m≤10:=by unfold za8;omega
          obtain ⟨z,hz3⟩:∃ z,za8 m=z:=⟨_,rfl⟩
          rw[hz3] at HSZ3 HMQ hob
          have HKR:Hid (zef tx ty=if zb7 tx ty=true then 0 else 50):=hid rfl
          obtain ⟨r,hr⟩:∃ r,zef tx ty=r:=⟨_,rfl⟩
          obtain ⟨ok,hok⟩:∃ ok,zb7 tx ty=ok:=⟨_,rfl⟩
          rw[hr] at HKR HK ⊢
          rw[hok] at HKR HMQ HK
          clear hr hok hsz hks hm2 hz3 m0 m1 m2 h0 h1 b3
          cases ok
          · obtain rfl:r=50:=HKR.out
            have HY:=hid (HI.out.trans (HNO.out (by rw[HMQ.out,Bool.false_and])))
            go_wp2_with fail
            refine HSZ3.out.mono ?_
            rintro e w6 ⟨rfl,rfl⟩
            go_wp2_with fail
            go_ret
            exact ⟨by rw[HY.out];rfl,HB6.out⟩
          · obtain rfl:r=0:=HKR.out
            rw[Bool.true_and] at HMQ
            by_cases hzz:sz=z
            · have ez:((sz:Int) != (z:Int))=false:=by rw[bne_eq_false_iff_eq];omega
              have ezn:(sz != z)=false:=by rw[bne_eq_false_iff_eq];exact hzz
              have hmq:zpy ws i=true:=by rw[HMQ.out,beq_iff_eq];omega
              have HY:=hid (HI.out.trans (HST.out hmq))
              obtain ⟨s2,-,s10⟩:=HS2.out hmq
              rw[HSZ.out] at HY s2 s10
              have hwr:IntKind.i64.wrap ((i:Int)+(sz:Int))=(i:Int)+(sz:Int):=IntWalk.i64_in _ (by omega)
              clear hzz hmq
              go_wp2_with fail
              refine HSZ3.out.mono ?_
              rintro e w6 ⟨rfl,rfl⟩
              go_wp2_with fail
              go_roundw
              case rel=>exact ⟨i+sz,by omega,by omega,by rw[Int.natCast_add],HY.out,HB6.out⟩
              case measure=>simp[intOf];omega
            · have ez:((sz:Int) != (z:Int))=true:=by rw[bne_iff_ne];omega
              have ezn:(sz != z)=true:=by rw[bne_iff_ne];exact hzz
              have HY:=hid (HI.out.trans (HNO.out (by rw[HMQ.out,beq_eq_false_iff_ne];omega)))
              clear hzz
              go_wp2_with fail
              refine HSZ3.out.mono ?_
              rintro e w6 ⟨rfl,rfl⟩
              go_wp2_with fail
              go_ret
              exact ⟨by rw[HY.out];rfl,HB6.out⟩
        · rw[Bool.not_true,Bool.false_and] at HMQ
          have HY:=hid (HI.out.trans (HNO.out HMQ.out))
          clear HMQ HNO HST
          go_wp2_with fail
          refine (HSP.out _).mono ?_
          rintro e w1 ⟨rfl,hB1⟩
          have hb1:=hB.trans (hB1.mono hz)
          go_wp2_with fail
          go_ret
          exact ⟨by rw[HY.out];rfl,hb1.alloc hb1.size _⟩
      · have ek:(xk != 1)=true:=by rw[bne_iff_ne];exact hk1
        have ek2:(xk == 1)=false:=by rw[beq_eq_false_iff_ne];exact hk1
        rw[ek2,Bool.false_and] at HMQ
        have HY:=hid (HI.out.trans (HNO.out HMQ.out))
        clear HMQ HNO HST hk1
        go_wp2_with fail
        refine (HSP.out _).mono ?_
        rintro e w1 ⟨rfl,hB1⟩
        have hb1:=hB.trans (hB1.mono hz)
        go_wp2_with fail
        go_ret
        exact ⟨by rw[HY.out];rfl,hb1.alloc hb1.size _⟩
  · have HE:=hid (HI.out.trans (zjg (ws:=ws) (i:=i) (t:=t) (by omega)))
    have hdl:decide ((i:Int)<(t:Int))=false:=by rw[decide_eq_false_iff_not];omega
    have hdln:decide (i<t)=false:=by rw[decide_eq_false_iff_not];exact hlt
    have HEQ:Hid (((i:Int) == (t:Int))=(i == t)):=hid (by rw[Bool.eq_iff_iff,beq_iff_eq,beq_iff_eq];omega)
    clear hlt
    go_wp2_with fail
    go_ret
    exact ⟨by rw[HE.out,←HEQ.out];rfl,hB⟩
end Go.Proofs.YtpcajamacpbjcaaGreat
namespace Go.Proofs.YtpcajamacpbjcaaGreat
open Lib (hid)
open Go.RowKit
theorem zFr {ws:List Nat} {r:Int} (h:zcx ws=r) (h0:r≠0):zao ws=r:=by
 subst h
 simp[zao,h0]
theorem lnV_no {ws:List Nat} (h0:zcx ws≠0):lnV ws=phV 0 0 0:=by simp[lnV,h0]
theorem zEo {ws:List Nat} (h:zcx ws=0) (h4:wd ws 16=4) (hm:mvd ws 128 (wd ws 18)=false):zao ws=50:=by simp[zao,h,h4,hm]
theorem zGh {ws:List Nat} (h:zcx ws=0) (h4:wd ws 16=4) (hm:mvd ws 128 (wd ws 18)=true):zao ws=zbi ws (wd ws 17:Nat) (wd ws 18:Nat):=by simp[zao,h,h4,hm]
theorem zGr {ws:List Nat} (h:zcx ws=0) (h3:wd ws 16=3):zao ws=zbi ws 128 128:=by simp[zao,h,h3]
theorem zFx {ws:List Nat} (h:zcx ws=0) (h3:wd ws 16<3):zao ws=zae ws:=by
 unfold zao
 rw[if_pos h,if_neg (by omega),if_neg (by omega)]
set_option maxRecDepth 100000 in
set_option maxHeartbeats 4000000 in
theorem zvp (A:Option Addr) (ws:List Nat) (c n:Nat) (w:World) (hn:ws.length=n) (hm:n≤9223372036854775807) (hc:n≤c) (hr:RdW w w.heap.size A ws) (ho:∀ x ∈ ws,x<18446744073709551616) :
   Calls Tryz.prog 101 #[.slice A n c] w fun e w'=>e=.returned (.tuple #[lnV ws,.int .i64 (zao ws)])∧Below w.heap.size w w':=by
 subst hn
 have HR:=hid hr
 have HO:=hid ho
 clear hr ho
 have b0:=Bx.new w 107 #[.int .i64 0,.int .i64 0,.int .i64 0]
 have HC:=hid (zvf A ws c ws.length (w.alloc (.cells #[.int .i64 0,.int .i64 0,.int .i64 0] 107)) rfl hm hc ((HR.out.alloc (Nat.le_refl _) _).more (by simp)) HO.out)
 rw[World.size_alloc] at HC
 by_cases h0:zcx ws=0
 · obtain ⟨h1,h2⟩:=zgz h0
   obtain ⟨hs,h3,h4⟩:=zfs h1
   obtain ⟨⟨l0,l1,l2⟩,-⟩:=(zbn ws).1 h3
   have hbd:=zf5 ws hs
   have hlv:lnV ws=phV (wd ws 16) (wd ws 17) (wd ws 18):=by simp[lnV,h0]
   have hp4:wd ws 16≤4:=by rcases (zcp _ _ _).1 h4 with h|h|h <;> omega
   have HMV:=hid (fun W (h:RdW W W.heap.size A ws)=>zLd A ws c ws.length (wd ws 18) W rfl (by omega) (by omega) l2 h HO.out)
   have HRD:=hid (fun (f s:Int) hf hs W (h:RdW W W.heap.size A ws)=>zqn A ws c ws.length f s W rfl hm hf hs h HO.out)
   have HMC:=hid (fun W (h:RdW W W.heap.size A ws)=>zmd A ws c ws.length W rfl hm h HO.out)
   have HL0:=hid h0
   have HE1:=hid (fun h4 hm=>zEo HL0.out h4 hm)
   have HE2:=hid (fun h4 hm=>zGh HL0.out h4 hm)
   have HE3:=hid (fun h3=>zGr HL0.out h3)
   have HE4:=hid (fun h3=>zFx HL0.out h3)
   have HRU:Hid (∀ w1:World,Below w.heap.size w w1→RdW (w1.alloc (.cells #[.int .i64 (wd ws 16:Int),.int .i64 (wd ws 17:Int),.int .i64 (wd ws 18:Int)] 107)) (w1.alloc (.cells #[.int .i64 (wd ws 16:Int),.int .i64 (wd ws 17:Int),.int .i64 (wd ws 18:Int)] 107)).heap.size A ws):=hid fun w1 h2=>((HR.out.up h2 h2.size).alloc (Nat.le_refl _) _).more (by simp)
   rw[h0,hlv] at HC
   rw[hlv]
   unfold phV at HC ⊢
   have hlen2:ws.length≤2048:=hbd.2.1
   clear h0 h1 h2 hs h3 h4 hlv b0 hbd
   obtain ⟨x,hx⟩:∃ x,wd ws 16=x:=⟨_,rfl⟩
   obtain ⟨y,hy⟩:∃ y,wd ws 17=y:=⟨_,rfl⟩
   obtain ⟨z,hz⟩:∃ z,wd ws 18=z:=⟨_,rfl⟩
   rw[hx] at hp4
   rw[hx,hy,hz] at HC HRU ⊢
   rw[hx,hz] at HE1
   rw[hx,hy,hz] at HE2
   rw[hx] at HE3 HE4
   rw[hz] at HMV l2
   rw[hy] at l1
   clear hx hy hz l0
   by_cases x4:x=4
   · have e4:((x:Int) == 4)=true:=by rw[beq_iff_eq];omega
     have e4n:(x == 4)=true:=by rw[beq_iff_eq];exact x4
     obtain ⟨m,hm2⟩:∃ m,mvd ws 128 z=m:=⟨_,rfl⟩
     rw[hm2] at HMV HE1 HE2
     cases m
     · have HV:=hid (HE1.out x4 rfl)
       clear HE1 HE2 HE3 HE4 x4 hm2
       go_enter Tryz.func101,Tryz.ntmps101
       go_wp2_with fail
       refine HC.out.mono ?_
       rintro e w1 ⟨rfl,hB1⟩
       have hb1:=zan hB1
       have HRW:=hid (HRU.out _ hb1)
       have b1:=Bx.of_new hB1
       have B1:=hid b1
       have HB1:=hid hb1
       obtain ⟨q0,q1,q2,f0,f1,f2,hgl⟩:=b1.c3
       clear hB1 hb1 b1
       go_wp2_with fail
       have bw:=Bx.new w1 107 #[.int .i64 (x:Int),.int .i64 (y:Int),.int .i64 (z:Int)]
       have hbw:=HB1.out.alloc HB1.out.size (.cells #[.int .i64 (x:Int),.int .i64 (y:Int),.int .i64 (z:Int)] 107)
       have hgw:=B1.out.alloc (.cells #[.int .i64 (x:Int),.int .i64 (y:Int),.int .i64 (z:Int)] 107)
       obtain ⟨W0,hW0⟩:∃ W0,w1.alloc (.cells #[.int .i64 (x:Int),.int .i64 (y:Int),.int .i64 (z:Int)] 107)=W0:=⟨_,rfl⟩
       rw[hW0] at bw hbw hgw HRW ⊢
       clear hW0 q0 q1 q2 f0 f1 f2
       have hg1:=bw.lt
       have hg0:=hgw.lt
       obtain ⟨p0,p1,p2,-⟩:=bw.c3
       have BW:=hid bw
       have HBW:=hid hbw
       have HGW:=hid hgw
       clear bw hbw hgw
       go_quiet (fail)
       go_wp2_with fail
       refine (HMV.out _ (show RdW (W0.drewN _) (W0.drewN _).heap.size A ws from HRW.out)).mono ?_
       rintro e w2 ⟨rfl,hB2⟩
       have hb2:=(zcr (Below.refl W0.heap.size W0) _).trans hB2
       have BW2:=hid (BW.out.up hb2 BW.out.lt)
       have HG2:=hid (HGW.out.up hb2 HGW.out.lt)
       have HB2:=hid (HBW.out.trans (hb2.mono HBW.out.size))
       have HR2:=hid (HRW.out.up hb2 hb2.size)
       obtain ⟨p0,p1,p2,-⟩:=BW2.out.c3
       obtain ⟨q0,q1,q2,f0,f1,f2,hgl⟩:=HG2.out.c3
       clear hB2 hb2
       go_wp2_with fail
       exact bodyPost_ret (v:=.tuple #[.agg #[.int .i64 (x:Int),.int .i64 (y:Int),.int .i64 (z:Int)],.int .i64 50]) (zbm Tryz.results101 _ (((HG2.out.set_ 0 _).set_ 1 _).set_ 2 _) rfl rfl) rfl ⟨by rw[HV.out],((HB2.out.setCell (Nat.le_refl _) _).setCell (Nat.le_refl _) _).setCell (Nat.le_refl _) _⟩
     · have HV:=hid (HE2.out x4 rfl)
       have HRQ:=hid (fun W h=>HRD.out (y:Int) (z:Int) (by omega) (by omega) W h)
       unfold zwn at HRQ
       obtain ⟨r,hr⟩:∃ r,zbi ws (y:Int) (z:Int)=r:=⟨_,rfl⟩
       obtain ⟨q,hq⟩:∃ q,zhn ws (y:Int) (z:Int)=q:=⟨_,rfl⟩
       rw[hr,hq] at HRQ
       rw[hr] at HV
       clear HE1 HE2 HE3 HE4 x4 hm2 hr hq
       go_enter Tryz.func101,Tryz.ntmps101
       go_wp2_with fail
       refine HC.out.mono ?_
       rintro e w1 ⟨rfl,hB1⟩
       have hb1:=zan hB1
       have HRW:=hid (HRU.out _ hb1)
       have b1:=Bx.of_new hB1
       have B1:=hid b1
       have HB1:=hid hb1
       obtain ⟨q0,q1,q2,f0,f1,f2,hgl⟩:=b1.c3
       clear hB1 hb1 b1
       go_wp2_with fail
       have bw:=Bx.new w1 107 #[.int .i64 (x:Int),.int .i64 (y:Int),.int .i64 (z:Int)]
       have hbw:=HB1.out.alloc HB1.out.size (.cells #[.int .i64 (x:Int),.int .i64 (y:Int),.int .i64 (z:Int)] 107)
       have hgw:=B1.out.alloc (.cells #[.int .i64 (x:Int),.int .i64 (y:Int),.int .i64 (z:Int)] 107)
       obtain ⟨W0,hW0⟩:∃ W0,w1.alloc (.cells #[.int .i64 (x:Int),.int .i64 (y:Int),.int .i64 (z:Int)] 107)=W0:=⟨_,rfl⟩
       rw[hW0] at bw hbw hgw HRW ⊢
       clear hW0 q0 q1 q2 f0 f1 f2
       have hg1:=bw.lt
       have hg0:=hgw.lt
       obtain ⟨p0,p1,p2,-⟩:=bw.c3
       have BW:=hid bw
       have HBW:=hid hbw
       have HGW:=hid hgw
       clear bw hbw hgw
       go_quiet (fail)
       go_wp2_with fail
       refine (HMV.out _ (show RdW (W0.drewN _) (W0.drewN _).heap.size A ws from HRW.out)).mono ?_
       rintro e w2 ⟨rfl,hB2⟩
       have hb2:=(zcr (Below.refl W0.heap.size W0) _).trans hB2
       have BW2:=hid (BW.out.up hb2 BW.out.lt)
       have HG2:=hid (HGW.out.up hb2 HGW.out.lt)
       have HB2:=hid (HBW.out.trans (hb2.mono HBW.out.size))
       have HR2:=hid (HRW.out.up hb2 hb2.size)
       obtain ⟨p0,p1,p2,-⟩:=BW2.out.c3
       obtain ⟨q0,q1,q2,f0,f1,f2,hgl⟩:=HG2.out.c3
       clear hB2 hb2
       go_wp2_with fail
       refine (HRQ.out _ HR2.out).mono ?_
       rintro e w3 ⟨⟨A1,c1,rfl,-,-⟩,hB3⟩
       have hb3:=(Below.refl w2.heap.size w2).trans hB3
       have BW3:=hid (BW2.out.up hb3 BW2.out.lt)
       have HG3:=hid (HG2.out.up hb3 HG2.out.lt)
       have HB3:=hid (HB2.out.trans (hb3.mono HB2.out.size))
       obtain ⟨p0,p1,p2,-⟩:=BW3.out.c3
       obtain ⟨q0,q1,q2,f0,f1,f2,hgl⟩:=HG3.out.c3
       clear hB3 hb3
       by_cases hr0:r=0
       · subst hr0
         go_wp2_with fail
         exact bodyPost_ret (v:=.tuple #[.agg #[.int .i64 (x:Int),.int .i64 (y:Int),.int .i64 (z:Int)],.int .i64 0]) (zbm Tryz.results101 _ (((HG3.out.set_ 0 _).set_ 1 _).set_ 2 _) rfl rfl) rfl ⟨by rw[HV.out],((HB3.out.setCell (Nat.le_refl _) _).setCell (Nat.le_refl _) _).setCell (Nat.le_refl _) _⟩
       · have hrn:(r != 0)=true:=by rw[bne_iff_ne];exact hr0
         clear hr0
         go_wp2_with fail
         exact bodyPost_ret (v:=.tuple #[.agg #[.int .i64 (x:Int),.int .i64 (y:Int),.int .i64 (z:Int)],.int .i64 r]) (zbm Tryz.results101 _ (((HG3.out.set_ 0 _).set_ 1 _).set_ 2 _) rfl rfl) rfl ⟨by rw[HV.out],((HB3.out.setCell (Nat.le_refl _) _).setCell (Nat.le_refl _) _).setCell (Nat.le_refl _) _⟩
   · have e4:((x:Int) == 4)=false:=by rw[beq_eq_false_iff_ne];omega
     have e4n:(x == 4)=false:=by rw[beq_eq_false_iff_ne];exact x4
     by_cases x3:x=3
     · have e3:((x:Int) == 3)=true:=by rw[beq_iff_eq];omega
       have e3n:(x == 3)=true:=by rw[beq_iff_eq];exact x3
       have HV:=hid (HE3.out x3)
       have HRQ:=hid (fun W h=>HRD.out 128 128 (by omega) (by omega) W h)
       unfold zwn at HRQ
       obtain ⟨r,hr⟩:∃ r,zbi ws 128 128=r:=⟨_,rfl⟩
       obtain ⟨q,hq⟩:∃ q,zhn ws 128 128=q:=⟨_,rfl⟩
       rw[hr,hq] at HRQ
       rw[hr] at HV
       clear HE1 HE2 HE3 HE4 x4 x3 hr hq
       go_enter Tryz.func101,Tryz.ntmps101
       go_wp2_with fail
       refine HC.out.mono ?_
       rintro e w1 ⟨rfl,hB1⟩
       have hb1:=zan hB1
       have HRW:=hid (HRU.out _ hb1)
       have b1:=Bx.of_new hB1
       have B1:=hid b1
       have HB1:=hid hb1
       obtain ⟨q0,q1,q2,f0,f1,f2,hgl⟩:=b1.c3
       clear hB1 hb1 b1
       go_wp2_with fail
       have bw:=Bx.new w1 107 #[.int .i64 (x:Int),.int .i64 (y:Int),.int .i64 (z:Int)]
       have hbw:=HB1.out.alloc HB1.out.size (.cells #[.int .i64 (x:Int),.int .i64 (y:Int),.int .i64 (z:Int)] 107)
       have hgw:=B1.out.alloc (.cells #[.int .i64 (x:Int),.int .i64 (y:Int),.int .i64 (z:Int)] 107)
       obtain ⟨W0,hW0⟩:∃ W0,w1.alloc (.cells #[.int .i64 (x:Int),.int .i64 (y:Int),.int .i64 (z:Int)] 107)=W0:=⟨_,rfl⟩
       rw[hW0] at bw hbw hgw HRW ⊢
       clear hW0 q0 q1 q2 f0 f1 f2
       have hg1:=bw.lt
       have hg0:=hgw.lt
       obtain ⟨p0,p1,p2,-⟩:=bw.c3
       have BW:=hid bw
       have HBW:=hid hbw
       have HGW:=hid hgw
       clear bw hbw hgw
       refine (HRQ.out _ HRW.out).mono ?_
       rintro e w3 ⟨⟨A1,c1,rfl,-,-⟩,hB3⟩
       have hb3:=(Below.refl W0.heap.size W0).trans hB3
       have BW3:=hid (BW.out.up hb3 BW.out.lt)
       have HG3:=hid (HGW.out.up hb3 HGW.out.lt)
       have HB3:=hid (HBW.out.trans (hb3.mono HBW.out.size))
       obtain ⟨p0,p1,p2,-⟩:=BW3.out.c3
       obtain ⟨q0,q1,q2,f0,f1,f2,hgl⟩:=HG3.out.c3
       clear hB3 hb3
       by_cases hr0:r=0
       · subst hr0
         go_wp2_with fail
         exact bodyPost_ret (v:=.tuple #[.agg #[.int .i64 (x:Int),.int .i64 (y:Int),.int .i64 (z:Int)],.int .i64 0]) (zbm Tryz.results101 _ (((HG3.out.set_ 0 _).set_ 1 _).set_ 2 _) rfl rfl) rfl ⟨by rw[HV.out],((HB3.out.setCell (Nat.le_refl _) _).setCell (Nat.le_refl _) _).setCell (Nat.le_refl _) _⟩
       · have hrn:(r != 0)=true:=by rw[bne_iff_ne];exact hr0
         clear hr0
         go_wp2_with fail
         exact bodyPost_ret (v:=.tuple #[.agg #[.int .i64 (x:Int),.int .i64 (y:Int),.int .i64 (z:Int)],.int .i64 r]) (zbm Tryz.results101 _ (((HG3.out.set_ 0 _).set_ 1 _).set_ 2 _) rfl rfl) rfl ⟨by rw[HV.out],((HB3.out.setCell (Nat.le_refl _) _).setCell (Nat.le_refl _) _).setCell (Nat.le_refl _) _⟩
     · have e3:((x:Int) == 3)=false:=by rw[beq_eq_false_iff_ne];omega
       have e3n:(x == 3)=false:=by rw[beq_eq_false_iff_ne];exact x3
       have HV:=hid (HE4.out (by omega))
       obtain ⟨r,hr⟩:∃ r,zae ws=r:=⟨_,rfl⟩
       rw[hr] at HMC HV
       clear HE1 HE2 HE3 HE4 x4 x3 hr
       go_enter Tryz.func101,Tryz.ntmps101
       go_wp2_with fail
       refine HC.out.mono ?_
       rintro e w1 ⟨rfl,hB1⟩
       have hb1:=zan hB1
       have HRW:=hid (HRU.out _ hb1)
       have b1:=Bx.of_new hB1
       have B1:=hid b1
       have HB1:=hid hb1
       obtain ⟨q0,q1,q2,f0,f1,f2,hgl⟩:=b1.c3
       clear hB1 hb1 b1
       go_wp2_with fail
       have bw:=Bx.new w1 107 #[.int .i64 (x:Int),.int .i64 (y:Int),.int .i64 (z:Int)]
       have hbw:=HB1.out.alloc HB1.out.size (.cells #[.int .i64 (x:Int),.int .i64 (y:Int),.int .i64 (z:Int)] 107)
       have hgw:=B1.out.alloc (.cells #[.int .i64 (x:Int),.int .i64 (y:Int),.int .i64 (z:Int)] 107)
       obtain ⟨W0,hW0⟩:∃ W0,w1.alloc (.cells #[.int .i64 (x:Int),.int .i64 (y:Int),.int .i64 (z:Int)] 107)=W0:=⟨_,rfl⟩
       rw[hW0] at bw hbw hgw HRW ⊢
       clear hW0 q0 q1 q2 f0 f1 f2
       have hg1:=bw.lt
       have hg0:=hgw.lt
       obtain ⟨p0,p1,p2,-⟩:=bw.c3
       have BW:=hid bw
       have HBW:=hid hbw
       have HGW:=hid hgw
       clear bw hbw hgw
       have hne:w1.heap.size≠w.heap.size:=by omega
       go_region_held3 (fun X:World=>X.cell? ⟨w1.heap.size,0,none⟩=some (.int .i64 (x:Int))∧X.cell? ⟨w1.heap.size,1,none⟩=some (.int .i64 (y:Int))∧X.cell? ⟨w1.heap.size,2,none⟩=some (.int .i64 (z:Int))) (first | exact ⟨(((BW3.out.far hne _).far hne _).far hne _).cell 0,(((BW3.out.far hne _).far hne _).far hne _).cell 1,(((BW3.out.far hne _).far hne _).far hne _).cell 2⟩ | go_keep)
         (first | (go_at_call 162;refine (HMC.out _ (show RdW W0.drew W0.drew.heap.size A ws from HRW.out)).mono ?_;rintro e w3 ⟨rfl,hB3⟩;have m0:=(hB3.cell (p:=⟨w1.heap.size,0,none⟩) hg1).trans p0;have m1:=(hB3.cell (p:=⟨w1.heap.size,1,none⟩) hg1).trans p1;have m2:=(hB3.cell (p:=⟨w1.heap.size,2,none⟩) hg1).trans p2;have hb3:Below W0.heap.size W0 w3:=(Below.refl W0.heap.size W0).drew.trans hB3;have HG3:=hid (HGW.out.up hb3 hg0);have BW3:=hid (BW.out.up hb3 hg1);have HB3:=hid (HBW.out.trans (hb3.mono HBW.out.size));clear hB3 hb3;obtain ⟨q0,q1,q2,f0,f1,f2,hgl⟩:=HG3.out.c3))
       go_wp2_with fail
       exact bodyPost_ret (v:=.tuple #[.agg #[.int .i64 (x:Int),.int .i64 (y:Int),.int .i64 (z:Int)],.int .i64 r]) (zbm Tryz.results101 _ (((HG3.out.set_ 0 _).set_ 1 _).set_ 2 _) rfl rfl) rfl ⟨by rw[HV.out],((HB3.out.setCell (Nat.le_refl _) _).setCell (Nat.le_refl _) _).setCell (Nat.le_refl _) _⟩
 · have HV:=hid (fun r h=>zFr (ws:=ws) (r:=r) h)
   rw[lnV_no h0] at HC ⊢
   obtain ⟨r,hr⟩:∃ r,zcx ws=r:=⟨_,rfl⟩
   rw[hr] at HC h0
   have HV:=hid (HV.out r hr h0)
   have hrn:(r != 0)=true:=by rw[bne_iff_ne];exact h0
   unfold phV at HC ⊢
   simp only[Int.cast_ofNat_Int] at HC ⊢
   have HRU:Hid (∀ w1:World,Below w.heap.size w w1→True):=hid fun _ _=>trivial
   clear h0 hr b0
   go_enter Tryz.func101,Tryz.ntmps101
   go_wp2_with fail
   refine HC.out.mono ?_
   rintro e w1 ⟨rfl,hB1⟩
   have hb1:=zan hB1
   have HRW:=hid (HRU.out _ hb1)
   have b1:=Bx.of_new hB1
   have B1:=hid b1
   have HB1:=hid hb1
   obtain ⟨q0,q1,q2,f0,f1,f2,hgl⟩:=b1.c3
   clear hB1 hb1 b1
   go_wp2_with fail
   exact bodyPost_ret (v:=.tuple #[.agg #[.int .i64 0,.int .i64 0,.int .i64 0],.int .i64 r]) (zbm Tryz.results101 _ ((((B1.out.set_ 0 _).set_ 1 _).set_ 2 _).alloc _) rfl rfl) rfl ⟨by rw[HV.out],(((HB1.out.setCell (Nat.le_refl _) _).setCell (Nat.le_refl _) _).setCell (Nat.le_refl _) _).alloc (by simp;exact HB1.out.size) _⟩
set_option maxRecDepth 100000 in
set_option maxHeartbeats 2000000 in
theorem zmx (A:Option Addr) (ws:List Nat) (c n:Nat) (w:World) (hn:ws.length=n) (hm:n≤9223372036854775807) (hc:n≤c) (hr:RdW w w.heap.size A ws) (ho:∀ x ∈ ws,x<18446744073709551616) :
  Calls Tryz.prog 52 #[.slice A n c] w fun e w'=>e=.returned (.int .i64 (zao ws))∧Below w.heap.size w w':=by
 have HC:=hid (zvp A ws c n w hn hm hc hr ho)
 have hv:∃ x y z:Nat,lnV ws=phV x y z:=by
  unfold lnV
  split
  · exact ⟨_,_,_,rfl⟩
  · exact ⟨0,0,0,rfl⟩
 obtain ⟨x,y,z,hv⟩:=hv
 rw[hv] at HC
 unfold phV at HC
 obtain ⟨r,hr2⟩:∃ r,zao ws=r:=⟨_,rfl⟩
 rw[hr2] at HC ⊢
 clear hr2 hv hr ho hn
 go_enter Tryz.func52,Tryz.ntmps52
 go_wp2_with fail
 refine HC.out.mono ?_
 rintro e w1 ⟨rfl,hB1⟩
 go_wp2_with fail
 go_ret
 exact ⟨rfl,hB1.alloc hB1.size _⟩
end Go.Proofs.YtpcajamacpbjcaaGreat
namespace Go.Proofs.YtpcajamacpbjcaaGreat
open Lib (hid)
open Go.RowKit
theorem lfN_no {ws:List Nat} (h:zao ws≠0):lfN ws=0:=by simp[lfN,h]
theorem zJw {ws:List Nat} (h:wd ws 16<3):lfN ws=0:=by
 simp[lfN,h]
theorem zDn {ws:List Nat} (h:zao ws=0) (h2:¬ wd ws 16<3):lfN ws=(zd8 (za5 ws (zf7 ws))).length:=by
 unfold lfN
 rw[if_pos h,if_neg h2]
theorem zjw {ws:List Nat} (h:zao ws=0):zcx ws=0:=by
 unfold zao at h
 split at h
 · assumption
 · exact h
theorem zx3 {l:List Bk} {k:Nat} (hk:k<l.length):(zd8 (l.take (k+1))).length=(zd8 (l.take k)).length+(if l[k].mark=true then 1 else 0):=by
 rw[zqy hk,List.length_append]
 split <;> rfl
set_option maxRecDepth 100000 in
set_option maxHeartbeats 4000000 in
theorem zIr (A:Option Addr) (ws:List Nat) (c n:Nat) (w:World) (hn:ws.length=n) (hm:n≤9223372036854775807) (hc:n≤c) (hr:RdW w w.heap.size A ws) (ho:∀ x ∈ ws,x<18446744073709551616) :
   Calls Tryz.prog 164 #[.slice A n c] w fun e w'=>e=.returned (.tuple #[.int .i64 (lfN ws:Nat),.int .i64 (zao ws)])∧Below w.heap.size w w':=by
 subst hn
 have HC:=hid (zvp A ws c ws.length w rfl hm hc hr ho)
 have HR:=hid hr
 have HO:=hid ho
 clear hr ho
 by_cases h0:zao ws=0
 · obtain ⟨h1,-⟩:=zgz (zjw h0)
   obtain ⟨hs,h3,h4⟩:=zfs h1
   obtain ⟨⟨l0,l1,l2⟩,-⟩:=(zbn ws).1 h3
   have hbd:=zf5 ws hs
   have hlv:lnV ws=phV (wd ws 16) (wd ws 17) (wd ws 18):=by simp[lnV,zjw h0]
   have HN1:=hid (fun h=>zJw (ws:=ws) h)
   have HN2:=hid (fun h=>zDn h0 h)
   have HFR:=hid (fun W (h:RdW W W.heap.size A ws)=>zlm A ws c ws.length (zf7 ws) W rfl hm h HO.out)
   unfold zph at HFR
   have hlen:=zgx ws (zf7 ws)
   have HFD:Hid (zf7 ws=if (wd ws 17:Int)<128 then 128 else (wd ws 17:Int)):=hid rfl
   have HRU:Hid (∀ w1:World,Below w.heap.size w w1→RdW (w1.alloc (.cells #[.int .i64 (wd ws 16:Int),.int .i64 (wd ws 17:Int),.int .i64 (wd ws 18:Int)] 107)) (w1.alloc (.cells #[.int .i64 (wd ws 16:Int),.int .i64 (wd ws 17:Int),.int .i64 (wd ws 18:Int)] 107)).heap.size A ws):=hid fun w1 h2=>((HR.out.up h2 h2.size).alloc (Nat.le_refl _) _).more (by simp)
   rw[h0,hlv] at HC
   rw[h0]
   unfold phV at HC
   have hlen2:ws.length≤2048:=hbd.2.1
   clear h0 h1 hs h3 h4 hlv hbd
   obtain ⟨x,hx⟩:∃ x,wd ws 16=x:=⟨_,rfl⟩
   obtain ⟨y,hy⟩:∃ y,wd ws 17=y:=⟨_,rfl⟩
   obtain ⟨z,hz⟩:∃ z,wd ws 18=z:=⟨_,rfl⟩
   obtain ⟨g,hg⟩:∃ g,zf7 ws=g:=⟨_,rfl⟩
   obtain ⟨l,hl⟩:∃ l,za5 ws g=l:=⟨_,rfl⟩
   obtain ⟨r,hr⟩:∃ r,zca ws g=r:=⟨_,rfl⟩
   obtain ⟨N,hN⟩:∃ N,lfN ws=N:=⟨_,rfl⟩
   rw[hg,hl,hr] at HFR
   rw[hN] at HN1 HN2 ⊢
   rw[hg,hl] at HN2
   rw[hg,hl] at hlen
   rw[hg,hy] at HFD
   rw[hx,hy,hz] at HC HRU
   rw[hx] at HN1 HN2
   rw[hy] at l1
   clear hx hy hz hg hl hr hN l0 l2
   by_cases x3:x<3
   · have hd:decide ((x:Int)<3)=true:=by rw[decide_eq_true_iff];omega
     have hdn:decide (x<3)=true:=by rw[decide_eq_true_iff];exact x3
     have HV:=hid (HN1.out x3)
     clear HN1 HN2 x3 HFD
     go_enter Tryz.func164,Tryz.ntmps164
     go_wp2_with fail
     refine HC.out.mono ?_
     rintro e w1 ⟨rfl,hB1⟩
     go_wp2_with fail
     go_ret2
     exact ⟨by rw[HV.out];rfl,hB1.alloc hB1.size _⟩
   · have hd:decide ((x:Int)<3)=false:=by rw[decide_eq_false_iff_not];omega
     have hdn:decide (x<3)=false:=by rw[decide_eq_false_iff_not];exact x3
     have HV:=hid (HN2.out x3)
     clear HN1 HN2 x3
     go_enter Tryz.func164,Tryz.ntmps164
     go_wp2_with fail
     refine HC.out.mono ?_
     rintro e w1 ⟨rfl,hB1⟩
     have HRW:=hid (HRU.out _ hB1)
     have HB1:=hid hB1
     clear hB1
     go_wp2_with fail
     all_goals
       have HF2:Hid (∀ q,g=q→∀ W:World,RdW W W.heap.size A ws→Calls Tryz.prog 65 #[.slice A ws.length c,.int .i64 q] W fun e w'=>(∃ A c,e=Ending.returned (.tuple #[.slice A l.length c,.int .i64 r])∧RdB w' w'.heap.size A l∧l.length≤c)∧Below W.heap.size W w'):=hid (fun q hq=>by rw[←hq];exact HFR.out)
       refine (HF2.out _ (by rw[HFD.out];first | rw[if_pos (by assumption)] | rw[if_neg (by omega)]) _ HRW.out).mono ?_
       rintro e w2 ⟨⟨A1,c1,rfl,hrd,-⟩,hB2⟩
       rw[World.size_alloc] at hB2
       have HB2:=hid (HB1.out.trans ((zan hB2).mono HB1.out.size))
       have HRD:=hid hrd
       have hw2:=HB2.out.size
       clear hrd hB2 HF2
       go_wp2_with fail
       go_loopw [8,32] (fun m i wr=>∃ k:Nat,k≤l.length∧i=.int .i64 k∧m=.int .i64 ((zd8 (l.take k)).length:Nat)∧Below w2.heap.size w2 wr) (fun _ i _=>l.length - (intOf i).toNat)
       case atStart=>exact ⟨0,Nat.zero_le _,rfl,rfl,Below.refl _ _⟩
       case round =>
        obtain ⟨k,hk,rfl,rfl,hB⟩:=hrel
        have hz:=hB.size
        by_cases hlt:k<l.length
        · obtain ⟨b,off,rfl,hbw,q0,q1,q2,q3,q4,q5⟩:=RdB.at_ (HRD.out.below hB) hlt
          have HSN:=hid (zx3 hlt)
          have hml:=zE0 (l.take k)
          rw[List.length_take] at hml
          obtain ⟨m,hm2⟩:∃ m,(zd8 (l.take k)).length=m:=⟨_,rfl⟩
          rw[hm2] at HSN hml ⊢
          obtain ⟨x',hx⟩:∃ x,l[k]=x:=⟨_,rfl⟩
          rw[hx] at q0 q1 q2 q3 q4 q5 HSN
          obtain ⟨xa,xs,xk,xt,xm,xn⟩:=x'
          dsimp only at q0 q1 q2 q3 q4 q5 HSN
          have hlm:(k:Int)<(l.length:Int):=by omega
          have hmk:(m:Int)≤4611686018427387904:=by omega
          clear hx hm2
          cases xm
          · have HS2:=hid (HSN.out.trans (Nat.add_zero m))
            clear HSN
            go_wp2_with fail
            go_roundw
            case rel=>exact ⟨k+1,by omega,by go_num,by rw[HS2.out],hB.alloc hz _⟩
            case measure=>simp[intOf];omega
          · have HS2:=hid (show (zd8 (l.take (k+1))).length=m+1 from HSN.out)
            clear HSN
            go_wp2_with fail
            go_roundw
            case rel=>exact ⟨k+1,by omega,by go_num,by rw[HS2.out];go_num,hB.alloc hz _⟩
            case measure=>simp[intOf];omega
        · rw[List.take_of_length_le (by omega)]
          rw[←HV.out]
          go_wp2_with fail
          go_ret2
          exact ⟨rfl,HB2.out.trans (hB.mono hw2)⟩
 · have HV:=hid (lfN_no h0)
   have hv:∃ x y z:Nat,lnV ws=phV x y z:=by
     unfold lnV
     split
     · exact ⟨_,_,_,rfl⟩
     · exact ⟨0,0,0,rfl⟩
   obtain ⟨x,y,z,hv⟩:=hv
   rw[hv] at HC
   unfold phV at HC
   obtain ⟨r,hr2⟩:∃ r,zao ws=r:=⟨_,rfl⟩
   rw[hr2] at HC h0 ⊢
   have hrn:(r != 0)=true:=by rw[bne_iff_ne];exact h0
   clear hr2 hv h0
   go_enter Tryz.func164,Tryz.ntmps164
   go_wp2_with fail
   refine HC.out.mono ?_
   rintro e w1 ⟨rfl,hB1⟩
   go_wp2_with fail
   go_ret2
   exact ⟨by rw[HV.out];rfl,hB1.alloc hB1.size _⟩
end Go.Proofs.YtpcajamacpbjcaaGreat
