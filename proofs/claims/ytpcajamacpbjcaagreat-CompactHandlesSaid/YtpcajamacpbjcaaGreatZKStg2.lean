/- Texts laid together: StgW StgO StgA. -/
import Derived.Test.YtpcajamacpbjcaaGreatZKStg1
import Derived.Test.YtpcajamacpbjcaaGreatZKFix
import Derived.Test.YtpcajamacpbjcaaGreatZNxt
import Derived.Test.YtpcajamacpbjcaaGreatZKHead
import Derived.Test.YtpcajamacpbjcaaGreatZKCursor
import Derived.LoopTactic
namespace Go.Proofs.YtpcajamacpbjcaaGreat
open Lib (hid)
open Go.RowKit
theorem zdy (w:World) {H n sz:Nat} (e:TypeId) (cs:Array Value) (hH:H≤w.heap.size) (hn:cs.size=n * sz) (hm:n≤maxLen):(w.alloc (.cells cs e)).ownsRow H e sz (.slice (some ⟨w.heap.size,0,none⟩) n n) n cs.toList:=
 ⟨by rw[Array.length_toList];exact hn,.inr ⟨w.heap.size,n,cs,rfl,hH,heap_alloc_new w _,Nat.le_refl _,hm,hn,by rw[List.take_of_length_le (by rw[Array.length_toList,hn];exact Nat.le_refl _)]⟩⟩
theorem zEu {w:World} {H n c m sz g:Nat} {e:TypeId} {xs:List Value} (h:w.ownsRow H e sz (.slice (some ⟨g,0,none⟩) n c) n xs) (hm:m≤n):w.ownsRow H e sz (.slice (some ⟨g,0,none⟩) m c) m (xs.take (m * sz)):=by
 have hms:m * sz≤n * sz:=Nat.mul_le_mul_right _ hm
 refine ⟨by rw[List.length_take,h.1];omega,.inr ?_⟩
 rcases h.2 with ⟨h1,_⟩|⟨g',cap,cur,h1,h2,h3,h4,h5,h6,h7⟩
 · cases h1
 · simp only[Value.slice.injEq,Option.some.injEq,Addr.mk.injEq,and_true,true_and] at h1
   obtain ⟨rfl,rfl⟩:=h1
   refine ⟨g,c,cur,rfl,h2,h3,by omega,h5,h6,?_⟩
   rw[←h7,List.take_take,Nat.min_eq_left hms]
set_option maxRecDepth 100000 in
set_option maxHeartbeats 1000000 in
theorem zil (i v:Int) (w:World) (hi:0≤i∧i≤1000) (hv:0≤v∧v≤9223372036854775807) :
  Calls Tryz.prog 147 #[.int .i64 i,.int .i64 v] w fun e w'=>e=.returned (.agg #[.int .i64 (16+i),.int .u64 v])∧Below w.heap.size w w':=by
 have w1:IntKind.i64.wrap (16+i)=16+i:=IntWalk.i64_in _ (by omega)
 have w2:IntKind.u64.wrap v=v:=IntWalk.u64_in _ (by omega)
 clear hi hv
 go_enter Tryz.func147,Tryz.ntmps147
 go_wp2_with fail
 exact bodyPost_ret (v:=.agg #[.int .i64 (16+i),.int .u64 v]) (by simp[results,Tryz.results147,go_sem]) rfl ⟨rfl,(Below.refl _ _).alloc (Nat.le_refl _) _⟩
set_option maxRecDepth 100000 in
set_option maxHeartbeats 2000000 in
theorem zqw (A:Option Addr) (E:List En) (c n p H:Nat) (w:World) (hn:E.length=n) (hm:n≤100000) (hp:p≤100) (hown:w.ownsRow H 89 2 (.slice A n c) n (E.flatMap En.cells)) (hH:H≤w.heap.size) :
   Calls Tryz.prog 142 #[.slice A n c,.int .i64 (p:Int)] w fun e w'=>(∃ A' c',e=.returned (.slice A' (zg1 E p).length c')∧w'.ownsRow H 89 2 (.slice A' (zg1 E p).length c') (zg1 E p).length ((zg1 E p).flatMap En.cells))∧Below w.heap.size w w':=by
 subst hn
 by_cases h:32≤E.length
 · have hb:=zcd (p:=p) h
   obtain ⟨g,c',e⟩:=zl8 hown (by omega)
   have hcap:=zfo hown
   cases e
   have HOW:=hid (zEu hown (show 31≤E.length by omega))
   have hl:(E.take 31).length=31:=by rw[List.length_take];omega
   have HB:=hid (And.intro hb hl)
   have d32:decide ((32:Int)≤(E.length:Int))=true:=by rw[decide_eq_true_iff];omega
   have d32n:decide (32≤E.length)=true:=by rw[decide_eq_true_iff];omega
   have c31:(31:Int)≤(c:Int):=by omega
   have l31:(31:Int)≤(E.length:Int):=by omega
   clear hb hl h hown hcap
   go_enter Tryz.func142,Tryz.ntmps142
   go_wp2_with fail
   go_ret
   refine ⟨⟨some ⟨g,0,none⟩,c,by rw[HB.out.1,HB.out.2];rfl,?_⟩,Below.refl _ _⟩
   rw[HB.out.1,HB.out.2,zng En.cells 2 En.len]
   exact HOW.out
 · have HB:=hid (zhh (p:=p) h)
   have HR:=hid (Rd.of_own hown)
   have HWD:=hid (fun W=>zil 0 (p:Int) W (by omega) (by omega))
   have d32:decide ((32:Int)≤(E.length:Int))=false:=by rw[decide_eq_false_iff_not];omega
   have d32n:decide (32≤E.length)=false:=by rw[decide_eq_false_iff_not];omega
   have hEl:E.length≤31:=by omega
   have HH:=hid hH
   clear h hown hH hm
   obtain ⟨i0,hi,hz0,hz1,hz2⟩:=info_parts zdn
   have HI:=hid hi
   have HZ0:=hid hz0
   have HZ1:=hid hz1
   have HZ2:=hid hz2
   clear hi hz0 hz1 hz2
   go_enter Tryz.func142,Tryz.ntmps142
   go_wp2_with fail
   refine (HWD.out _).mono ?_
   rintro e w1 ⟨rfl,hB1⟩
   have HB1:=hid hB1
   have HR1:=hid (HR.out.up hB1 hB1.size)
   simp only[Int.add_zero]
   clear hB1
   go_wp2_with (at_builtin;refine zb2 _ (by rfl) _ _ 26 rfl w1.heap.size 89 i0 _ 2 16 Tryz.underlying26 HI.out HZ0.out HZ1.out HZ2.out rfl (by decide) (.slice (some ⟨w1.heap.size,0,none⟩) 1 1) 1 [.int .i64 16,.int .u64 (p:Int)] (by rfl) (zdy (n:=1) (sz:=2) w1 89 #[.int .i64 16,.int .u64 (p:Int)] (Nat.le_refl _) (by rfl) (by unfold maxLen;omega)) w1.heap.size (A) (E.length) c (E.flatMap En.cells) (by rfl) (by rw[zcw En.cells 2 En.len]) (Rd.alloc (HR1.out) (Nat.le_refl _) _) (zd2 En.one _) (by unfold maxLen;omega) (by omega) (by simp) ?_;intro v1 wa hown1 hg1;have hBa:=zcm ((Below.refl w1.heap.size w1).alloc (Nat.le_refl _) _) (by simp) (zdy (n:=1) (sz:=2) w1 89 #[.int .i64 16,.int .u64 (p:Int)] (Nat.le_refl _) (by rfl) (by unfold maxLen;omega)) hg1;have HOWN:=hid hown1;have HBA:=hid hBa;clear hown1 hBa hg1)
   go_ret
   have h1:=zbf HOWN.out (show H≤w1.heap.size from Nat.le_trans HH.out HB1.out.size)
   rw[Nat.add_comm] at h1
   obtain ⟨A9,c9,rfl⟩:=zbb h1
   refine ⟨⟨A9,c9,by rw[HB.out];rfl,?_⟩,HB1.out.trans (HBA.out.mono HB1.out.size)⟩
   rw[HB.out,List.length_cons]
   exact h1
def zeb (ws:List Nat) (f:Nat):Int × List En:=if f=0 then (if zey ws=0 then (0,⟨17,128⟩ :: zec ws) else (zey ws,[])) else zkn ws f
theorem zGe (ws:List Nat):zdg ws=zeb ws (wd ws 17):=rfl
set_option maxRecDepth 100000 in
set_option maxHeartbeats 8000000 in
theorem zKb (A:Option Addr) (ws:List Nat) (c n f:Nat) (q t:Int) (w:World) (hn:ws.length=n) (hm:n≤2048) (hf:f≤n) (hr:RdW w w.heap.size A ws) (ho:∀ x ∈ ws,x<18446744073709551616) :
   Calls Tryz.prog 144 #[.slice A n c,.agg #[.int .i64 q,.int .i64 (f:Int),.int .i64 t]] w fun e w'=>zhc w.heap.size (zeb ws f).1 (zeb ws f).2 e w'∧Below w.heap.size w w':=by
 subst hn
 have HR:=hid hr
 have HFS:=hid (fun W (h:RdW W W.heap.size A ws)=>zwg A ws c ws.length W rfl (by omega) h ho)
 unfold zhc at HFS
 have HNX:=hid (fun a (h1:a≤4096) W (h:RdW W W.heap.size A ws)=>zHs A ws c ws.length ((a:Nat):Int) W rfl (by omega) (by omega) h ho)
 have HRS:=hid (fun a W (h:RdW W W.heap.size A ws)=>zyf A ws c ws.length ((a:Nat):Int) W rfl (by omega) h ho)
 unfold RsRes at HRS
 have HOB:=hid (fun a W (h:RdW W W.heap.size A ws)=>ztx A ws c ws.length ((a:Nat):Int) W rfl (by omega) h ho)
 unfold zhc at HOB
 have HW0:Hid (∀ (v:Int) (W:World),0≤v∧v≤9223372036854775807→Calls Tryz.prog 147 #[.int .i64 0,.int .i64 v] W fun e w'=>e=.returned (.agg #[.int .i64 16,.int .u64 v])∧Below W.heap.size W w'):=hid fun v W hv=>zil 0 v W (by omega) hv
 have HW1:Hid (∀ (v:Int) (W:World),0≤v∧v≤9223372036854775807→Calls Tryz.prog 147 #[.int .i64 1,.int .i64 v] W fun e w'=>e=.returned (.agg #[.int .i64 17,.int .u64 v])∧Below W.heap.size W w'):=hid fun v W hv=>zil 1 v W (by omega) hv
 have HW2:Hid (∀ (v:Int) (W:World),0≤v∧v≤9223372036854775807→Calls Tryz.prog 147 #[.int .i64 2,.int .i64 v] W fun e w'=>e=.returned (.agg #[.int .i64 18,.int .u64 v])∧Below W.heap.size W w'):=hid fun v W hv=>zil 2 v W (by omega) hv
 have HFL:Hid (∀ m:Nat,zdw ws (m:Int)=0→(zct ws (m:Int)).length≤8):=hid fun m h=>by obtain ⟨f,-,-,-,-,q5,-⟩:=zhb h;exact q5
 clear hr ho
 have xb:=Bx.new w 107 #[.int .i64 q,.int .i64 (f:Int),.int .i64 t]
 have HBX:=hid ((Below.refl w.heap.size w).alloc (Nat.le_refl _) (.cells #[.int .i64 q,.int .i64 (f:Int),.int .i64 t] 107))
 have HRX:=hid ((HR.out.alloc (Nat.le_refl _) (.cells #[.int .i64 q,.int .i64 (f:Int),.int .i64 t] 107)).more (show w.heap.size≤(w.alloc (.cells #[.int .i64 q,.int .i64 (f:Int),.int .i64 t] 107)).heap.size by simp))
 have XB:=hid xb
 clear xb
 by_cases hf0:f=0
 · subst hf0
   by_cases h0:zey ws=0
   · have HV:=hid (show zeb ws 0=(0,⟨17,128⟩ :: zec ws) by unfold zeb;rw[if_pos rfl,if_pos h0])
     have hl:(zec ws).length≤16:=by obtain ⟨-,-,-,-,-,-,-,-,-,q3,-⟩:=zip h0;exact q3
     rw[h0] at HFS
     obtain ⟨E,hE⟩:∃ E,zec ws=E:=⟨_,rfl⟩
     rw[hE] at HFS HV hl
     clear h0 hE
     obtain ⟨i0,hi,hz0,hz1,hz2⟩:=info_parts zdn
     have HI:=hid hi
     have HZ0:=hid hz0
     have HZ1:=hid hz1
     have HZ2:=hid hz2
     clear hi hz0 hz1 hz2
     simp only[Int.cast_ofNat_Int] at XB HBX HRX ⊢
     go_enter Tryz.func144,Tryz.ntmps144
     go_wp2_with fail
     refine (HFS.out _ HRX.out).mono ?_
     rintro e w1 ⟨⟨A1,c1,rfl,hown1⟩,hB1⟩
     have HB1:=hid (HBX.out.trans (hB1.mono HBX.out.size))
     have HE1:=hid (Rd.of_own hown1)
     clear hown1 hB1
     go_wp2_with fail
     refine (HW1.out 128 _ (by omega)).mono ?_
     rintro e w2 ⟨rfl,hB2⟩
     have HB2:=hid (HB1.out.trans (hB2.mono HB1.out.size))
     have HE2:=hid (HE1.out.up hB2 hB2.size)
     clear hB2
     go_wp2_with (at_builtin;refine zb2 _ (by rfl) _ _ 26 rfl w2.heap.size 89 i0 _ 2 16 Tryz.underlying26 HI.out HZ0.out HZ1.out HZ2.out rfl (by decide) (.slice (some ⟨w2.heap.size,0,none⟩) 1 1) 1 [.int .i64 17,.int .u64 128] (by rfl) (zdy (n:=1) (sz:=2) w2 89 #[.int .i64 17,.int .u64 128] (Nat.le_refl _) (by rfl) (by unfold maxLen;omega)) w2.heap.size (A1) (E.length) c1 (E.flatMap En.cells) (by rfl) (by rw[zcw En.cells 2 En.len]) (Rd.alloc (HE2.out) (Nat.le_refl _) _) (zd2 En.one _) (by unfold maxLen;omega) (by omega) (by simp) ?_;intro v1 wa hown1 hg1;have hBa:=zcm ((Below.refl w2.heap.size w2).alloc (Nat.le_refl _) _) (by simp) (zdy (n:=1) (sz:=2) w2 89 #[.int .i64 17,.int .u64 128] (Nat.le_refl _) (by rfl) (by unfold maxLen;omega)) hg1;have HOWN:=hid hown1;have HBA:=hid hBa;clear hown1 hBa hg1)
     have h1:=zbf HOWN.out HB2.out.size
     rw[Nat.add_comm] at h1
     obtain ⟨A9,c9,rfl⟩:=zbb h1
     have H1:=hid h1
     clear h1
     go_ret2
     rw[HV.out]
     exact ⟨⟨A9,c9,rfl,H1.out⟩,HB2.out.trans (HBA.out.mono HB2.out.size)⟩
   · have HV:=hid (show zeb ws 0=(zey ws,[]) by unfold zeb;rw[if_pos rfl,if_neg h0])
     have hne:(zey ws != 0)=true:=by rw[bne_iff_ne];exact h0
     obtain ⟨r,hr⟩:∃ r,zey ws=r:=⟨_,rfl⟩
     obtain ⟨E,hE⟩:∃ E,zec ws=E:=⟨_,rfl⟩
     rw[hr] at HFS HV hne
     rw[hE] at HFS
     clear h0 hr hE
     simp only[Int.cast_ofNat_Int] at XB HBX HRX ⊢
     go_enter Tryz.func144,Tryz.ntmps144
     go_wp2_with fail
     refine (HFS.out _ HRX.out).mono ?_
     rintro e w1 ⟨⟨A1,c1,rfl,-⟩,hB1⟩
     have HB1:=hid (HBX.out.trans (hB1.mono HBX.out.size))
     clear hB1
     go_wp2_with fail
     go_ret2
     rw[HV.out]
     exact ⟨zbv rfl rfl,HB1.out⟩
 · have HV:Hid (zeb ws f=zkn ws f):=hid (by unfold zeb;rw[if_neg hf0])
   have f0:((f:Int) == 0)=false:=by rw[beq_eq_false_iff_ne];omega
   have f0n:(f == 0)=false:=by rw[beq_eq_false_iff_ne];exact hf0
   clear hf0
   obtain ⟨wP,hwP⟩:∃ wP,w.alloc (.cells #[.int .i64 q,.int .i64 (f:Int),.int .i64 t] 107)=wP:=⟨_,rfl⟩
   rw[hwP] at HBX HRX XB
   obtain ⟨p0,p1,p2,-⟩:=XB.out.c3
   obtain ⟨i0,hi,hz0,hz1,hz2⟩:=info_parts zdn
   have HI:=hid hi
   have HZ0:=hid hz0
   have HZ1:=hid hz1
   have HZ2:=hid hz2
   clear hi hz0 hz1 hz2
   go_enter Tryz.func144,Tryz.ntmps144
   go_wp2_with fail
   clear p0 p1 p2 f0 f0n
   go_loopw [8] (fun i wr=>∃ a:Nat,a≤ws.length∧i=.int .i64 a∧Hid (zkn ws a=zkn ws f)∧Below w.heap.size w wr) (fun i _=>ws.length+1 - (intOf i).toNat)
   case atStart=>exact ⟨f,hf,rfl,rfl,HBX.out⟩
   case round =>
     obtain ⟨a,ha,rfl,HFX,hB⟩:=hrel
     have hz:=hB.size
     have HQ:=hid (HNX.out a (by omega) wr (HR.out.up hB hz))
     have HBW:=hid hB
     by_cases h0:zbj ws (a:Int)=0
     · obtain ⟨hs,a1,a2,m,em,m1,m2,m3,m4,m5,m6,m7,m8,-⟩:=zfc h0
       have hval:(zhm ws (a:Int)).val=.agg #[.int .i64 (m:Int),.int .i64 ((szAt ws m:Nat):Int),.int .i64 1,.int .i64 (bkAt ws m).typ,.bool true,.int .u64 ((bkAt ws m).next:Int)]:=by
         rw[em];unfold Bk.val;rw[m7,m8];rfl
       rw[hval,h0] at HQ
       have HSK:=hid (fun h=>zkk h0 em h)
       have HBD:=hid (fun h h2=>zu8 h0 em h h2)
       have HOK:=hid (fun h h2=>zps h0 em h h2)
       obtain ⟨z,hz2⟩:∃ z,szAt ws m=z:=⟨_,rfl⟩
       obtain ⟨T,hT⟩:∃ T,(bkAt ws m).typ=T:=⟨_,rfl⟩
       obtain ⟨N,hN⟩:∃ N,(bkAt ws m).next=N:=⟨_,rfl⟩
       rw[hz2,hT,hN] at HQ
       rw[hz2] at HSK HOK m3 m5
       have HRm:=hid (fun W h=>HRS.out m W h)
       have HOm:=hid (fun W h=>HOB.out m W h)
       have HFm:=hid (HFL.out m)
       have wmz:IntKind.i64.wrap ((m:Int)+(z:Int))=(m:Int)+(z:Int):=IntWalk.i64_in _ (by omega)
       have hcast:(((m+z:Nat)):Int)=(m:Int)+(z:Int):=by omega
       have HCA:=hid hcast
       have hmz:m+z≤ws.length:=m5
       have hz02:2≤z:=m3
       have ham:a≤m:=m1
       clear hs a1 a2 m1 m2 m3 m4 m5 m6 m7 m8 hval h0 em hz2 hT hN hcast hB
       by_cases hrs:zb0 ws (m:Int)=[]
       · have HX:=hid ((HSK.out hrs).symm.trans HFX.out)
         rw[hrs] at HRm
         clear hrs
         go_wp2_with fail
         refine HQ.out.mono ?_
         rintro e w1 ⟨rfl,hB1⟩
         have HB1:=hid (HBW.out.trans (hB1.mono hz))
         have XN0:=Bx.new w1 55 #[.int .i64 (m:Int),.int .i64 (z:Int),.int .i64 1,.int .i64 T,.bool true,.int .u64 (N:Int)]
         have HBn:=hid (HB1.out.alloc HB1.out.size (.cells #[.int .i64 (m:Int),.int .i64 (z:Int),.int .i64 1,.int .i64 T,.bool true,.int .u64 (N:Int)] 55))
         have HRn:=hid (HR.out.up HBn.out HBn.out.size)
         have XN:=hid XN0
         clear hB1 XN0
         go_wp2_with fail
         refine (HRm.out _ HRn.out).mono ?_
         rintro e w2 ⟨⟨A2,c2,rfl,-,-⟩,hB2⟩
         have HB2:=hid (HBn.out.trans (hB2.mono HBn.out.size))
         clear hB2
         simp only[List.length_nil]
         go_wp2_with fail
         go_roundw
         case rel=>exact ⟨m+z,hmz,by rw[HCA.out],HX.out,HB2.out⟩
         case measure=>simp[intOf];omega
       · have hlr:¬ (zb0 ws (m:Int)).length=0:=fun h=>hrs (List.eq_nil_of_length_eq_zero h)
         obtain ⟨lr,hlr2⟩:∃ lr,(zb0 ws (m:Int)).length=lr:=⟨_,rfl⟩
         rw[hlr2] at HRm hlr
         have l0:((lr:Int) == 0)=false:=by rw[beq_eq_false_iff_ne];omega
         have l0n:(lr == 0)=false:=by rw[beq_eq_false_iff_ne];exact hlr
         by_cases ho:zdw ws (m:Int)=0
         · have HX:=hid (show zeb ws f=(0,⟨17,m+z⟩ :: zct ws (m:Int)) by rw[HV.out,←HFX.out];exact HOK.out hrs ho)
           have hE8:=HFm.out ho
           rw[ho] at HOm
           obtain ⟨E,hE⟩:∃ E,zct ws (m:Int)=E:=⟨_,rfl⟩
           rw[hE] at HOm HX hE8
           clear hrs hlr hlr2 ho hE
           go_wp2_with fail
           refine HQ.out.mono ?_
           rintro e w1 ⟨rfl,hB1⟩
           have HB1:=hid (HBW.out.trans (hB1.mono hz))
           have XN0:=Bx.new w1 55 #[.int .i64 (m:Int),.int .i64 (z:Int),.int .i64 1,.int .i64 T,.bool true,.int .u64 (N:Int)]
           have HBn:=hid (HB1.out.alloc HB1.out.size (.cells #[.int .i64 (m:Int),.int .i64 (z:Int),.int .i64 1,.int .i64 T,.bool true,.int .u64 (N:Int)] 55))
           have HRn:=hid (HR.out.up HBn.out HBn.out.size)
           have XN:=hid XN0
           clear hB1 XN0
           go_wp2_with fail
           refine (HRm.out _ HRn.out).mono ?_
           rintro e w2 ⟨⟨A2,c2,rfl,-,-⟩,hB2⟩
           have HB2:=hid (HBn.out.trans (hB2.mono HBn.out.size))
           have HR2:=hid (HRn.out.up hB2 hB2.size)
           have x2:=XN.out.up hB2 XN.out.lt
           obtain ⟨p0,p1,-⟩:=x2.c6
           clear hB2 x2
           go_wp2_with fail
           refine (HOm.out _ HR2.out).mono ?_
           rintro e w3 ⟨⟨A3,c3,rfl,hown3⟩,hB3⟩
           have HB3:=hid (HB2.out.trans (hB3.mono HB2.out.size))
           have HE3:=hid (Rd.of_own hown3)
           clear hown3 hB3 p0 p1
           go_wp2_with fail
           refine (HW1.out _ _ (by omega)).mono ?_
           rintro e w4 ⟨rfl,hB4⟩
           have HB4:=hid (HB3.out.trans (hB4.mono HB3.out.size))
           have HE4:=hid (HE3.out.up hB4 hB4.size)
           clear hB4
           go_wp2_with (at_builtin;refine zb2 _ (by rfl) _ _ 26 rfl w4.heap.size 89 i0 _ 2 16 Tryz.underlying26 HI.out HZ0.out HZ1.out HZ2.out rfl (by decide) (.slice (some ⟨w4.heap.size,0,none⟩) 1 1) 1 [.int .i64 17,.int .u64 ((m:Int)+(z:Int))] (by rfl) (zdy (n:=1) (sz:=2) w4 89 #[.int .i64 17,.int .u64 ((m:Int)+(z:Int))] (Nat.le_refl _) (by rfl) (by unfold maxLen;omega)) w4.heap.size (A3) (E.length) c3 (E.flatMap En.cells) (by rfl) (by rw[zcw En.cells 2 En.len]) (Rd.alloc (HE4.out) (Nat.le_refl _) _) (zd2 En.one _) (by unfold maxLen;omega) (by omega) (by simp) ?_;intro v1 wa hown1 hg1;have hBa:=zcm ((Below.refl w4.heap.size w4).alloc (Nat.le_refl _) _) (by simp) (zdy (n:=1) (sz:=2) w4 89 #[.int .i64 17,.int .u64 ((m:Int)+(z:Int))] (Nat.le_refl _) (by rfl) (by unfold maxLen;omega)) hg1;have HOWN:=hid hown1;have HBA:=hid hBa;clear hown1 hBa hg1)
           have h1:=zbf HOWN.out HB4.out.size
           rw[Nat.add_comm] at h1
           obtain ⟨A9,c9,rfl⟩:=zbb h1
           have H1:=hid h1
           clear h1
           go_ret2
           rw[HX.out]
           refine ⟨⟨A9,c9,rfl,?_⟩,HB4.out.trans (HBA.out.mono HB4.out.size)⟩
           have h2:=H1.out
           rw[←HCA.out] at h2
           exact h2
         · have HX:=hid (show zeb ws f=(zdw ws (m:Int),[]) by rw[HV.out,←HFX.out];exact HBD.out hrs ho)
           have hne:(zdw ws (m:Int) != 0)=true:=by rw[bne_iff_ne];exact ho
           obtain ⟨r,hr⟩:∃ r,zdw ws (m:Int)=r:=⟨_,rfl⟩
           obtain ⟨E,hE⟩:∃ E,zct ws (m:Int)=E:=⟨_,rfl⟩
           rw[hE,hr] at HOm
           rw[hr] at HX hne
           clear hrs hlr hlr2 ho hE hr
           go_wp2_with fail
           refine HQ.out.mono ?_
           rintro e w1 ⟨rfl,hB1⟩
           have HB1:=hid (HBW.out.trans (hB1.mono hz))
           have XN0:=Bx.new w1 55 #[.int .i64 (m:Int),.int .i64 (z:Int),.int .i64 1,.int .i64 T,.bool true,.int .u64 (N:Int)]
           have HBn:=hid (HB1.out.alloc HB1.out.size (.cells #[.int .i64 (m:Int),.int .i64 (z:Int),.int .i64 1,.int .i64 T,.bool true,.int .u64 (N:Int)] 55))
           have HRn:=hid (HR.out.up HBn.out HBn.out.size)
           have XN:=hid XN0
           clear hB1 XN0
           go_wp2_with fail
           refine (HRm.out _ HRn.out).mono ?_
           rintro e w2 ⟨⟨A2,c2,rfl,-,-⟩,hB2⟩
           have HB2:=hid (HBn.out.trans (hB2.mono HBn.out.size))
           have HR2:=hid (HRn.out.up hB2 hB2.size)
           have x2:=XN.out.up hB2 XN.out.lt
           obtain ⟨p0,p1,-⟩:=x2.c6
           clear hB2 x2
           go_wp2_with fail
           refine (HOm.out _ HR2.out).mono ?_
           rintro e w3 ⟨⟨A3,c3,rfl,-⟩,hB3⟩
           have HB3:=hid (HB2.out.trans (hB3.mono HB2.out.size))
           clear hB3 p0 p1
           go_wp2_with fail
           go_ret2
           rw[HX.out]
           exact ⟨zbv rfl rfl,HB3.out⟩
     · have HX:=hid (show zeb ws f=(0,zb3) by rw[HV.out,←HFX.out];exact zi2 h0)
       have hne:(zbj ws (a:Int) != 0)=true:=by rw[bne_iff_ne];exact h0
       obtain ⟨r,hr⟩:∃ r,zbj ws (a:Int)=r:=⟨_,rfl⟩
       obtain ⟨B,hBv⟩:∃ B,zhm ws (a:Int)=B:=⟨_,rfl⟩
       rw[hr,hBv] at HQ
       rw[hr] at hne
       obtain ⟨xa,xs,xk,xt,xm,xn⟩:=B
       unfold Bk.val at HQ
       dsimp only at HQ
       clear h0 hr hBv hB
       go_wp2_with fail
       refine HQ.out.mono ?_
       rintro e w1 ⟨rfl,hB1⟩
       have HB1:=hid ((HBW.out.trans (hB1.mono hz)).alloc (Nat.le_trans HBW.out.size hB1.size) (.cells #[.int .i64 xa,.int .i64 xs,.int .i64 xk,.int .i64 xt,.bool xm,.int .u64 (xn:Int)] 55))
       clear hB1
       go_wp2_with fail
       refine (HW0.out 4 _ (by omega)).mono ?_
       rintro e w2 ⟨rfl,hB2⟩
       have HB2:=hid (HB1.out.trans (hB2.mono HB1.out.size))
       clear hB2
       go_wp2_with fail
       refine (HW1.out 128 _ (by omega)).mono ?_
       rintro e w3 ⟨rfl,hB3⟩
       have HB3:=hid (HB2.out.trans (hB3.mono HB2.out.size))
       clear hB3
       go_wp2_with fail
       refine (HW2.out 128 _ (by omega)).mono ?_
       rintro e w4 ⟨rfl,hB4⟩
       have HB4:=hid (HB3.out.trans (hB4.mono HB3.out.size))
       clear hB4
       go_wp2_with fail
       go_ret2
       rw[HX.out]
       exact ⟨⟨some ⟨w4.heap.size,0,none⟩,3,rfl,zdy (n:=3) (sz:=2) w4 89 #[.int .i64 16,.int .u64 4,.int .i64 17,.int .u64 128,.int .i64 18,.int .u64 128] HB4.out.size rfl (by unfold maxLen;omega)⟩,HB4.out.alloc HB4.out.size _⟩
end Go.Proofs.YtpcajamacpbjcaaGreat
namespace Go.Proofs.YtpcajamacpbjcaaGreat
open Lib (hid)
open Go.RowKit
set_option maxRecDepth 100000 in
set_option maxHeartbeats 16000000 in
theorem zJ7 (A:Option Addr) (ws:List Nat) (c n:Nat) (w:World) (hn:ws.length=n) (hm:n≤9223372036854775807) (hc:n≤c) (hr:RdW w w.heap.size A ws) (ho:∀ x ∈ ws,x<18446744073709551616) :
   Calls Tryz.prog 91 #[.slice A n c] w fun e w'=>zhc w.heap.size (zac ws).1 (zac ws).2 e w'∧Below w.heap.size w w':=by
 subst hn
 have HR:=hid hr
 have HCK:=hid (zmx A ws c ws.length w rfl hm hc hr ho)
 have HLN:=hid (fun W (h:RdW W W.heap.size A ws)=>zvf A ws c ws.length W rfl hm hc h ho)
 by_cases h0:zao ws=0
 · obtain ⟨hpr,hs,hl,hph⟩:=zck h0
   have hln:=zjw h0
   have hb:=(zad _).1 hs
   obtain ⟨⟨l1,l2,l3⟩,-⟩:=(zbn ws).1 hl
   have hlv:lnV ws=phV (wd ws 16) (wd ws 17) (wd ws 18):=by unfold lnV;rw[if_pos hln]
   rw[hlv,hln] at HLN
   rw[h0] at HCK
   unfold phV at HLN
   have hlen:ws.length≤2048:=by omega
   obtain ⟨f,hf⟩:∃ f,wd ws 17=f:=⟨_,rfl⟩
   obtain ⟨t,ht⟩:∃ t,wd ws 18=t:=⟨_,rfl⟩
   rw[hf,ht] at HLN
   rw[hf] at l2
   rw[ht] at l3
   by_cases p1:wd ws 16=1
   · rw[p1] at HLN
     simp only[Int.cast_ofNat_Int] at HLN
     have HWN:=hid (fun W (h:RdW W W.heap.size A ws)=>zx2 A ws c ws.length W rfl hm h ho)
     unfold zhc at HWN
     by_cases hrc:zap ws=0
     · have HV:=hid (show zac ws=(0,zg1 (za4 ws) 2) by unfold zac;rw[if_pos h0,if_pos p1,if_pos hrc])
       have hel:(za4 ws).length≤1024:=by
         rw[zdz hrc,List.length_map]
         have h1:=zp8 (seenL ws) (zab ws)
         have h2:=zib ws
         omega
       rw[hrc] at HWN
       obtain ⟨E,hE⟩:∃ E,za4 ws=E:=⟨_,rfl⟩
       rw[hE] at HWN HV hel
       have HBT:=hid (fun A1 c1 H W hown hH=>zqw A1 E c1 E.length 2 H W rfl (by omega) (by omega) hown hH)
       clear hr ho h0 hpr hs hl hph hln hlv hf ht p1 hrc hE hb l1 l2 l3
       go_enter Tryz.func91,Tryz.ntmps91
       go_wp2_with fail
       refine HCK.out.mono ?_
       rintro e w1 ⟨rfl,hB1⟩
       have HB1:=hid hB1
       clear hB1
       go_wp2_with fail
       refine (HLN.out _ (HR.out.up HB1.out HB1.out.size)).mono ?_
       rintro e w2 ⟨rfl,hB2⟩
       have hb2:=HB1.out.trans (hB2.mono HB1.out.size)
       have XN:=hid (Bx.new w2 107 #[.int .i64 1,.int .i64 (f:Int),.int .i64 (t:Int)])
       have HBn:=hid (hb2.alloc hb2.size (.cells #[.int .i64 1,.int .i64 (f:Int),.int .i64 (t:Int)] 107))
       have HRn:=hid (HR.out.up HBn.out HBn.out.size)
       clear hB2 hb2
       go_wp2_with fail
       obtain ⟨q0,q1,q2,-⟩:=XN.out.c3
       refine (HWN.out _ HRn.out).mono ?_
       rintro e w3 ⟨⟨A3,c3,rfl,hown3⟩,hB3⟩
       have HB3:=hid (HBn.out.trans (hB3.mono HBn.out.size))
       have HO3:=hid (zbf hown3 HBn.out.size)
       clear hown3 hB3 q0 q1 q2
       go_wp2_with fail
       refine (HBT.out _ _ _ _ HO3.out HB3.out.size).mono ?_
       rintro e w4 ⟨⟨A4,c4,rfl,hown4⟩,hB4⟩
       have HB4:=hid (HB3.out.trans (hB4.mono HB3.out.size))
       have HO4:=hid hown4
       clear hown4 hB4
       go_wp2_with fail
       go_ret2
       rw[HV.out]
       exact ⟨⟨A4,c4,rfl,HO4.out⟩,HB4.out⟩
     · have HV:=hid (show zac ws=(zap ws,[]) by unfold zac;rw[if_pos h0,if_pos p1,if_neg hrc])
       have hne:(zap ws != 0)=true:=by rw[bne_iff_ne];exact hrc
       obtain ⟨E,hE⟩:∃ E,za4 ws=E:=⟨_,rfl⟩
       obtain ⟨r,hr2⟩:∃ r,zap ws=r:=⟨_,rfl⟩
       rw[hE,hr2] at HWN
       rw[hr2] at HV hne
       clear hr ho h0 hpr hs hl hph hln hlv hf ht p1 hrc hE hb l1 l2 l3 hr2
       go_enter Tryz.func91,Tryz.ntmps91
       go_wp2_with fail
       refine HCK.out.mono ?_
       rintro e w1 ⟨rfl,hB1⟩
       have HB1:=hid hB1
       clear hB1
       go_wp2_with fail
       refine (HLN.out _ (HR.out.up HB1.out HB1.out.size)).mono ?_
       rintro e w2 ⟨rfl,hB2⟩
       have hb2:=HB1.out.trans (hB2.mono HB1.out.size)
       have XN:=hid (Bx.new w2 107 #[.int .i64 1,.int .i64 (f:Int),.int .i64 (t:Int)])
       have HBn:=hid (hb2.alloc hb2.size (.cells #[.int .i64 1,.int .i64 (f:Int),.int .i64 (t:Int)] 107))
       have HRn:=hid (HR.out.up HBn.out HBn.out.size)
       clear hB2 hb2
       go_wp2_with fail
       refine (HWN.out _ HRn.out).mono ?_
       rintro e w3 ⟨⟨A3,c3,rfl,-⟩,hB3⟩
       have HB3:=hid (HBn.out.trans (hB3.mono HBn.out.size))
       clear hB3
       go_wp2_with fail
       go_ret2
       rw[HV.out]
       exact ⟨zbv rfl rfl,HB3.out⟩
   · by_cases p2:wd ws 16=2
     · rw[p2] at HLN
       simp only[Int.cast_ofNat_Int] at HLN
       have HWN:=hid (fun W (h:RdW W W.heap.size A ws)=>zsz A ws c ws.length W rfl hm h ho)
       unfold zhc at HWN
       by_cases hrc:zae ws=0
       · have HV:=hid (show zac ws=(0,zg1 (za0 ws) 3) by unfold zac;rw[if_pos h0,if_neg p1,if_pos p2,if_pos hrc])
         have hel:(za0 ws).length≤1024:=(zvc hrc).1
         rw[hrc] at HWN
         obtain ⟨E,hE⟩:∃ E,za0 ws=E:=⟨_,rfl⟩
         rw[hE] at HWN HV hel
         have HBT:=hid (fun A1 c1 H W hown hH=>zqw A1 E c1 E.length 3 H W rfl (by omega) (by omega) hown hH)
         clear hr ho h0 hpr hs hl hph hln hlv hf ht p1 p2 hrc hE hb l1 l2 l3
         go_enter Tryz.func91,Tryz.ntmps91
         go_wp2_with fail
         refine HCK.out.mono ?_
         rintro e w1 ⟨rfl,hB1⟩
         have HB1:=hid hB1
         clear hB1
         go_wp2_with fail
         refine (HLN.out _ (HR.out.up HB1.out HB1.out.size)).mono ?_
         rintro e w2 ⟨rfl,hB2⟩
         have hb2:=HB1.out.trans (hB2.mono HB1.out.size)
         have XN:=hid (Bx.new w2 107 #[.int .i64 2,.int .i64 (f:Int),.int .i64 (t:Int)])
         have HBn:=hid (hb2.alloc hb2.size (.cells #[.int .i64 2,.int .i64 (f:Int),.int .i64 (t:Int)] 107))
         have HRn:=hid (HR.out.up HBn.out HBn.out.size)
         clear hB2 hb2
         go_wp2_with fail
         refine (HWN.out _ HRn.out).mono ?_
         rintro e w3 ⟨⟨A3,c3,rfl,hown3⟩,hB3⟩
         have HB3:=hid (HBn.out.trans (hB3.mono HBn.out.size))
         have HO3:=hid (zbf hown3 HBn.out.size)
         clear hown3 hB3
         go_wp2_with fail
         refine (HBT.out _ _ _ _ HO3.out HB3.out.size).mono ?_
         rintro e w4 ⟨⟨A4,c4,rfl,hown4⟩,hB4⟩
         have HB4:=hid (HB3.out.trans (hB4.mono HB3.out.size))
         have HO4:=hid hown4
         clear hown4 hB4
         go_wp2_with fail
         go_ret2
         rw[HV.out]
         exact ⟨⟨A4,c4,rfl,HO4.out⟩,HB4.out⟩
       · have HV:=hid (show zac ws=(zae ws,[]) by unfold zac;rw[if_pos h0,if_neg p1,if_pos p2,if_neg hrc])
         have hne:(zae ws != 0)=true:=by rw[bne_iff_ne];exact hrc
         obtain ⟨E,hE⟩:∃ E,za0 ws=E:=⟨_,rfl⟩
         obtain ⟨r,hr2⟩:∃ r,zae ws=r:=⟨_,rfl⟩
         rw[hE,hr2] at HWN
         rw[hr2] at HV hne
         clear hr ho h0 hpr hs hl hph hln hlv hf ht p1 p2 hrc hE hb l1 l2 l3 hr2
         go_enter Tryz.func91,Tryz.ntmps91
         go_wp2_with fail
         refine HCK.out.mono ?_
         rintro e w1 ⟨rfl,hB1⟩
         have HB1:=hid hB1
         clear hB1
         go_wp2_with fail
         refine (HLN.out _ (HR.out.up HB1.out HB1.out.size)).mono ?_
         rintro e w2 ⟨rfl,hB2⟩
         have hb2:=HB1.out.trans (hB2.mono HB1.out.size)
         have XN:=hid (Bx.new w2 107 #[.int .i64 2,.int .i64 (f:Int),.int .i64 (t:Int)])
         have HBn:=hid (hb2.alloc hb2.size (.cells #[.int .i64 2,.int .i64 (f:Int),.int .i64 (t:Int)] 107))
         have HRn:=hid (HR.out.up HBn.out HBn.out.size)
         clear hB2 hb2
         go_wp2_with fail
         refine (HWN.out _ HRn.out).mono ?_
         rintro e w3 ⟨⟨A3,c3,rfl,-⟩,hB3⟩
         have HB3:=hid (HBn.out.trans (hB3.mono HBn.out.size))
         clear hB3
         go_wp2_with fail
         go_ret2
         rw[HV.out]
         exact ⟨zbv rfl rfl,HB3.out⟩
     · by_cases p3:wd ws 16=3
       · rw[p3] at HLN
         simp only[Int.cast_ofNat_Int] at HLN
         have HV:=hid (show zac ws=zeb ws f by unfold zac;rw[if_pos h0,if_neg p1,if_neg p2,if_pos p3,zGe,hf])
         have HFX:=hid (fun W (h:RdW W W.heap.size A ws)=>zKb A ws c ws.length f 3 (t:Int) W rfl hlen (by omega) h ho)
         unfold zhc at HFX
         obtain ⟨r,hr2⟩:∃ r,(zeb ws f).1=r:=⟨_,rfl⟩
         obtain ⟨E,hE⟩:∃ E,(zeb ws f).2=E:=⟨_,rfl⟩
         have HV2:Hid (zac ws=(r,E)):=hid (by rw[HV.out,←hr2,←hE])
         rw[hr2,hE] at HFX
         clear hr ho h0 hpr hs hl hph hln hlv hf ht p1 p2 p3 hb l1 l2 l3 hr2 hE HV
         go_enter Tryz.func91,Tryz.ntmps91
         go_wp2_with fail
         refine HCK.out.mono ?_
         rintro e w1 ⟨rfl,hB1⟩
         have HB1:=hid hB1
         clear hB1
         go_wp2_with fail
         refine (HLN.out _ (HR.out.up HB1.out HB1.out.size)).mono ?_
         rintro e w2 ⟨rfl,hB2⟩
         have hb2:=HB1.out.trans (hB2.mono HB1.out.size)
         have XN:=hid (Bx.new w2 107 #[.int .i64 3,.int .i64 (f:Int),.int .i64 (t:Int)])
         have HBn:=hid (hb2.alloc hb2.size (.cells #[.int .i64 3,.int .i64 (f:Int),.int .i64 (t:Int)] 107))
         have HRn:=hid (HR.out.up HBn.out HBn.out.size)
         clear hB2 hb2
         go_wp2_with fail
         refine (HFX.out _ HRn.out).mono ?_
         rintro e w3 ⟨⟨A3,c3,rfl,hown3⟩,hB3⟩
         have HB3:=hid (HBn.out.trans (hB3.mono HBn.out.size))
         have HO3:=hid (zbf hown3 HBn.out.size)
         clear hown3 hB3
         go_wp2_with fail
         go_ret2
         rw[HV2.out]
         exact ⟨⟨A3,c3,rfl,HO3.out⟩,HB3.out⟩
       · by_cases p4:wd ws 16=4
         · rw[p4] at HLN
           simp only[Int.cast_ofNat_Int] at HLN
           have hin:=(zcp _ _ _).1 hph
           have HNX:=hid (fun W (h:RdW W W.heap.size A ws)=>zHs A ws c ws.length ((f:Nat):Int) W rfl hm (by omega) h ho)
           have HW1:Hid (∀ (v:Int) (W:World),0≤v∧v≤9223372036854775807→Calls Tryz.prog 147 #[.int .i64 1,.int .i64 v] W fun e w'=>e=.returned (.agg #[.int .i64 17,.int .u64 v])∧Below W.heap.size W w'):=hid fun v W hv=>zil 1 v W (by omega) hv
           have HW2:Hid (∀ (v:Int) (W:World),0≤v∧v≤9223372036854775807→Calls Tryz.prog 147 #[.int .i64 2,.int .i64 v] W fun e w'=>e=.returned (.agg #[.int .i64 18,.int .u64 v])∧Below W.heap.size W w'):=hid fun v W hv=>zil 2 v W (by omega) hv
           have hsg:zac ws=zes ws:=by unfold zac;rw[if_pos h0,if_neg p1,if_neg p2,if_neg p3,if_pos p4]
           by_cases hnx:zbj ws (f:Int)=0
           · obtain ⟨-,a1,a2,m,em,m1,m2,m3,m4,m5,m6,m7,m8,-⟩:=zfc hnx
             have hval:(zhm ws (f:Int)).val=.agg #[.int .i64 (m:Int),.int .i64 ((szAt ws m:Nat):Int),.int .i64 1,.int .i64 (bkAt ws m).typ,.bool true,.int .u64 ((bkAt ws m).next:Int)]:=by
               rw[em];unfold Bk.val;rw[m7,m8];rfl
             rw[hval,hnx] at HNX
             have HMV:=hid (fun W (h:RdW W W.heap.size A ws)=>zHm A ws c ws.length (m:Int) (t:Int) W rfl hm (by omega) (by omega) h ho)
             unfold zhc at HMV
             by_cases hmv:zex ws (m:Int) (t:Int)=0
             · have e2:zes ws=(0,⟨17,m+szAt ws m⟩ :: ⟨18,t+szAt ws m⟩ :: zi3 ws (m:Int) (t:Int)):=by
                 unfold zes
                 rw[hf,ht,if_pos hnx,em,zaa,if_pos hmv,zba,show ((m:Int)+((szAt ws m:Nat):Int)).toNat=m+szAt ws m by omega,show ((t:Int)+((szAt ws m:Nat):Int)).toNat=t+szAt ws m by omega]
               have HV:=hid (hsg.trans e2)
               obtain ⟨a,u,k,ea,eu,en,n2,n10,hu,hua,han,-⟩:=zfy hmv
               have ea:m=a:=by omega
               have eu:t=u:=by omega
               subst ea eu
               have hml:(zi3 ws (m:Int) (t:Int)).length≤10:=by
                 unfold zi3
                 rw[if_pos hmv,Int.toNat_natCast,Int.toNat_natCast,zg8];omega
               rw[hmv] at HMV
               obtain ⟨z,hz2⟩:∃ z,szAt ws m=z:=⟨_,rfl⟩
               obtain ⟨T,hT⟩:∃ T,(bkAt ws m).typ=T:=⟨_,rfl⟩
               obtain ⟨N,hN⟩:∃ N,(bkAt ws m).next=N:=⟨_,rfl⟩
               obtain ⟨E,hE⟩:∃ E,zi3 ws (m:Int) (t:Int)=E:=⟨_,rfl⟩
               rw[hz2,hT,hN] at HNX
               rw[hz2,hE] at HV
               rw[hz2] at m3 m5
               rw[hE] at HMV hml
               have waz:IntKind.i64.wrap ((m:Int)+(z:Int))=(m:Int)+(z:Int):=IntWalk.i64_in _ (by omega)
               have wuz:IntKind.i64.wrap ((t:Int)+(z:Int))=(t:Int)+(z:Int):=IntWalk.i64_in _ (by omega)
               have HCA:Hid ((((m+z:Nat)):Int)=(m:Int)+(z:Int)):=hid (by omega)
               have HCU:Hid ((((t+z:Nat)):Int)=(t:Int)+(z:Int)):=hid (by omega)
               have hz10:2≤z:=m3
               have haz:m+z≤ws.length:=m5
               have huz:t+z≤ws.length:=by omega
               obtain ⟨i0,hi,hz0,hz1,hz2⟩:=info_parts zdn
               have HI:=hid hi
               have HZ0:=hid hz0
               have HZ1:=hid hz1
               have HZ2:=hid hz2
               clear hi hz0 hz1 hz2
               clear hr ho h0 hpr hs hl hph hln hlv hf p1 p2 p3 p4 hb l1 l2 l3 hin hsg hnx a1 a2 em m1 m2 m3 m4 m5 m6 m7 m8 hval hmv e2 ea eu en n2 n10 hu hua han hz2 hT hN hE
               go_enter Tryz.func91,Tryz.ntmps91
               go_wp2_with fail
               refine HCK.out.mono ?_
               rintro e w1 ⟨rfl,hB1⟩
               have HB1:=hid hB1
               clear hB1
               go_wp2_with fail
               refine (HLN.out _ (HR.out.up HB1.out HB1.out.size)).mono ?_
               rintro e w2 ⟨rfl,hB2⟩
               have hb2:=HB1.out.trans (hB2.mono HB1.out.size)
               have XN:=hid (Bx.new w2 107 #[.int .i64 4,.int .i64 (f:Int),.int .i64 (t:Int)])
               have HBn:=hid (hb2.alloc hb2.size (.cells #[.int .i64 4,.int .i64 (f:Int),.int .i64 (t:Int)] 107))
               have HRn:=hid (HR.out.up HBn.out HBn.out.size)
               clear hB2 hb2
               go_wp2_with fail
               obtain ⟨q0,q1,q2,-⟩:=XN.out.c3
               refine (HNX.out _ HRn.out).mono ?_
               rintro e w3 ⟨rfl,hB3⟩
               have hb3:=HBn.out.trans (hB3.mono HBn.out.size)
               have XB:=hid (Bx.new w3 55 #[.int .i64 (m:Int),.int .i64 (z:Int),.int .i64 1,.int .i64 T,.bool true,.int .u64 (N:Int)])
               have HB4:=hid (hb3.alloc hb3.size (.cells #[.int .i64 (m:Int),.int .i64 (z:Int),.int .i64 1,.int .i64 T,.bool true,.int .u64 (N:Int)] 55))
               have HR4:=hid (HR.out.up HB4.out HB4.out.size)
               have XP4:=hid ((XN.out.up hB3 XN.out.lt).alloc (.cells #[.int .i64 (m:Int),.int .i64 (z:Int),.int .i64 1,.int .i64 T,.bool true,.int .u64 (N:Int)] 55))
               clear hB3 hb3 q0 q1 q2
               obtain ⟨q0,q1,q2,-⟩:=XP4.out.c3
               obtain ⟨b0,b1,-⟩:=XB.out.c6
               go_wp2_with fail
               refine (HMV.out _ HR4.out).mono ?_
               rintro e w5 ⟨⟨A5,c5,rfl,hown5⟩,hB5⟩
               have HB5:=hid (HB4.out.trans (hB5.mono HB4.out.size))
               have HE5:=hid (Rd.of_own hown5)
               have x5:=XB.out.up hB5 XB.out.lt
               have y5:=XP4.out.up hB5 XP4.out.lt
               have X5:=hid x5
               have Y5:=hid y5
               clear q0 q1 q2 b0 b1 hown5 hB5
               obtain ⟨-,-,r2,-,-,-,gr⟩:=y5.c3
               obtain ⟨s0,s1,-,-,-,-,-,gs⟩:=x5.c6
               clear x5 y5
               go_wp2_with fail
               refine wp_region_held_drew (S:=fun X:World=>X.cell? ⟨w3.heap.size,0,none⟩=some (.int .i64 (m:Int))∧X.cell? ⟨w3.heap.size,1,none⟩=some (.int .i64 (z:Int))∧X.cell? ⟨w2.heap.size,2,none⟩=some (.int .i64 (t:Int))) (by kernel_rfl) ⟨s0,s1,r2⟩ (fun hHeld => ?_)
               show wpAnyH _ _ _ _ _ 17 #[false,false,false,false,false,false,false,false,false,false,false,false,false,false,false,false,false] _ _
               refine wpAnyH_take (i:=0) (v:=.pointer (some ⟨w3.heap.size,0,none⟩)) rfl (by kernel_rfl) (by kernel_rfl) (by kernel_rfl) (fun _ _ _ h=>h) (Or.inl ⟨by kernel_rfl,?_⟩) (by assumption) ?_
               · intro X hX
                 (try dsimp only at hX)
                 go_simp
               dsimp only[Act.put,List.getElem_toArray,List.getElem_cons_zero,List.getElem_cons_succ,List.setIfInBounds_toArray,List.set_cons_zero,List.set_cons_succ]
               refine wpAnyH_take (i:=1) (v:=.int .i64 (m:Int)) rfl (by kernel_rfl) (by kernel_rfl) (by kernel_rfl) (fun _ _ _ h=>h) (Or.inl ⟨by kernel_rfl,?_⟩) (by assumption) ?_
               · intro X hX
                 (try dsimp only at hX)
                 go_simp
               dsimp only[Act.put,List.getElem_toArray,List.getElem_cons_zero,List.getElem_cons_succ,List.setIfInBounds_toArray,List.set_cons_zero,List.set_cons_succ]
               refine wpAnyH_take (i:=2) (v:=.pointer (some ⟨w3.heap.size,1,none⟩)) rfl (by kernel_rfl) (by kernel_rfl) (by kernel_rfl) (fun _ _ _ h=>h) (Or.inl ⟨by kernel_rfl,?_⟩) (by assumption) ?_
               · intro X hX
                 (try dsimp only at hX)
                 go_simp
               dsimp only[Act.put,List.getElem_toArray,List.getElem_cons_zero,List.getElem_cons_succ,List.setIfInBounds_toArray,List.set_cons_zero,List.set_cons_succ]
               refine wpAnyH_take (i:=3) (v:=.int .i64 (z:Int)) rfl (by kernel_rfl) (by kernel_rfl) (by kernel_rfl) (fun _ _ _ h=>h) (Or.inl ⟨by kernel_rfl,?_⟩) (by assumption) ?_
               · intro X hX
                 (try dsimp only at hX)
                 go_simp
               dsimp only[Act.put,List.getElem_toArray,List.getElem_cons_zero,List.getElem_cons_succ,List.setIfInBounds_toArray,List.set_cons_zero,List.set_cons_succ]
               refine wpAnyH_take (i:=4) (v:=.int .i64 ((m:Int)+(z:Int))) rfl (by kernel_rfl) (by kernel_rfl) (by kernel_rfl) (fun _ _ _ h=>h) (Or.inl ⟨by kernel_rfl,?_⟩) (by assumption) ?_
               · intro X hX
                 (try dsimp only at hX)
                 go_simp
               dsimp only[Act.put,List.getElem_toArray,List.getElem_cons_zero,List.getElem_cons_succ,List.setIfInBounds_toArray,List.set_cons_zero,List.set_cons_succ]
               refine wpAnyH_take (i:=6) (v:=.pointer (some ⟨w2.heap.size,2,none⟩)) rfl (by kernel_rfl) (by kernel_rfl) (by kernel_rfl) (fun _ _ _ h=>h) (Or.inl ⟨by kernel_rfl,?_⟩) (by assumption) ?_
               · intro X hX
                 (try dsimp only at hX)
                 go_simp
               dsimp only[Act.put,List.getElem_toArray,List.getElem_cons_zero,List.getElem_cons_succ,List.setIfInBounds_toArray,List.set_cons_zero,List.set_cons_succ]
               refine wpAnyH_take (i:=7) (v:=.int .i64 (t:Int)) rfl (by kernel_rfl) (by kernel_rfl) (by kernel_rfl) (fun _ _ _ h=>h) (Or.inl ⟨by kernel_rfl,?_⟩) (by assumption) ?_
               · intro X hX
                 (try dsimp only at hX)
                 go_simp
               dsimp only[Act.put,List.getElem_toArray,List.getElem_cons_zero,List.getElem_cons_succ,List.setIfInBounds_toArray,List.set_cons_zero,List.set_cons_succ]
               refine wpAnyH_take (i:=8) (v:=.pointer (some ⟨w3.heap.size,1,none⟩)) rfl (by kernel_rfl) (by kernel_rfl) (by kernel_rfl) (fun _ _ _ h=>h) (Or.inl ⟨by kernel_rfl,?_⟩) (by assumption) ?_
               · intro X hX
                 (try dsimp only at hX)
                 go_simp
               dsimp only[Act.put,List.getElem_toArray,List.getElem_cons_zero,List.getElem_cons_succ,List.setIfInBounds_toArray,List.set_cons_zero,List.set_cons_succ]
               refine wpAnyH_take (i:=9) (v:=.int .i64 (z:Int)) rfl (by kernel_rfl) (by kernel_rfl) (by kernel_rfl) (fun _ _ _ h=>h) (Or.inl ⟨by kernel_rfl,?_⟩) (by assumption) ?_
               · intro X hX
                 (try dsimp only at hX)
                 go_simp
               dsimp only[Act.put,List.getElem_toArray,List.getElem_cons_zero,List.getElem_cons_succ,List.setIfInBounds_toArray,List.set_cons_zero,List.set_cons_succ]
               refine wpAnyH_take (i:=10) (v:=.int .i64 ((t:Int)+(z:Int))) rfl (by kernel_rfl) (by kernel_rfl) (by kernel_rfl) (fun _ _ _ h=>h) (Or.inl ⟨by kernel_rfl,?_⟩) (by assumption) ?_
               · intro X hX
                 (try dsimp only at hX)
                 go_simp
               dsimp only[Act.put,List.getElem_toArray,List.getElem_cons_zero,List.getElem_cons_succ,List.setIfInBounds_toArray,List.set_cons_zero,List.set_cons_succ]
               refine wpAnyH_take (i:=13) (v:=.slice A5 E.length c5) rfl (by kernel_rfl) (by kernel_rfl) (by kernel_rfl) (fun _ _ _ h=>h) (Or.inl ⟨by kernel_rfl,?_⟩) (by assumption) ?_
               · intro X hX
                 (try dsimp only at hX)
                 go_simp
               dsimp only[Act.put,List.getElem_toArray,List.getElem_cons_zero,List.getElem_cons_succ,List.setIfInBounds_toArray,List.set_cons_zero,List.set_cons_succ]
               simp only[List.setIfInBounds_toArray,List.set_cons_zero,List.set_cons_succ]
               refine wpAnyH_ready (rs:=[5]) (by kernel_rfl) (by simp) ?_
               refine AllReadyH.cons rfl (fun K hK => ?_) AllReadyH.nil
               go_simp
               refine (HW1.out _ _ (by omega)).mono ?_
               rintro e w6 ⟨rfl,hB6⟩
               go_simp
               have HB6:=hid (HB5.out.trans (((Below.refl w5.heap.size w5).drew.trans hB6).mono HB5.out.size))
               have HE6:=hid (HE5.out.up ((Below.refl w5.heap.size w5).drew.trans hB6) hB6.size)
               have s0:=(hB6.cell (p:=⟨w3.heap.size,0,none⟩) gs).trans s0
               have s1:=(hB6.cell (p:=⟨w3.heap.size,1,none⟩) gs).trans s1
               have r2:=(hB6.cell (p:=⟨w2.heap.size,2,none⟩) gr).trans r2
               have gs:w3.heap.size<w6.heap.size:=Nat.lt_of_lt_of_le gs hB6.size
               have gr:w2.heap.size<w6.heap.size:=Nat.lt_of_lt_of_le gr hB6.size
               refine hK.out _ _ ⟨s0,s1,r2⟩ (fun HS1 => ?_)
               clear hK K hB6 hHeld
               refine wpAnyH_ready (rs:=[11]) (by kernel_rfl) (by simp) ?_
               refine AllReadyH.cons rfl (fun K hK => ?_) AllReadyH.nil
               go_simp
               refine (HW2.out _ _ (by omega)).mono ?_
               rintro e w7 ⟨rfl,hB7⟩
               go_simp
               have HB7:=hid (HB6.out.trans (hB7.mono HB6.out.size))
               have HE7:=hid (HE6.out.up hB7 hB7.size)
               have s0:=(hB7.cell (p:=⟨w3.heap.size,0,none⟩) gs).trans s0
               have s1:=(hB7.cell (p:=⟨w3.heap.size,1,none⟩) gs).trans s1
               have r2:=(hB7.cell (p:=⟨w2.heap.size,2,none⟩) gr).trans r2
               have gs:w3.heap.size<w7.heap.size:=Nat.lt_of_lt_of_le gs hB7.size
               have gr:w2.heap.size<w7.heap.size:=Nat.lt_of_lt_of_le gr hB7.size
               refine hK.out _ _ ⟨s0,s1,r2⟩ (fun HS2 => ?_)
               clear hK K hB7 HS1
               refine wpAnyH_ready (rs:=[12]) (by kernel_rfl) (by simp) ?_
               refine AllReadyH.cons rfl (fun K hK => ?_) AllReadyH.nil
               go_simp
               refine hK.out _ _ ⟨(World.cell?_alloc_lt w7 _ ⟨w3.heap.size,0,none⟩ gs).trans s0,(World.cell?_alloc_lt w7 _ ⟨w3.heap.size,1,none⟩ gs).trans s1,(World.cell?_alloc_lt w7 _ ⟨w2.heap.size,2,none⟩ gr).trans r2⟩ (fun HS3 => ?_)
               clear hK K HS2
               refine wpAnyH_ready (rs:=[14]) (by kernel_rfl) (by simp) ?_
               refine AllReadyH.cons rfl (fun K hK => ?_) AllReadyH.nil
               rw[if_pos (by rfl)]
               refine zls _ _ _ 26 (by rfl) w7.heap.size 89 i0 _ 2 16 Tryz.underlying26 HI.out HZ0.out HZ1.out HZ2.out rfl (by decide) (.slice (some ⟨w7.heap.size,0,none⟩) 2 2) 2 [.int .i64 17,.int .u64 ((m:Int)+(z:Int)),.int .i64 18,.int .u64 ((t:Int)+(z:Int))] (by rfl) (zdy (n:=2) (sz:=2) w7 89 #[.int .i64 17,.int .u64 ((m:Int)+(z:Int)),.int .i64 18,.int .u64 ((t:Int)+(z:Int))] (Nat.le_refl _) (by rfl) (by unfold maxLen;omega)) w7.heap.size A5 E.length c5 (E.flatMap En.cells) (by rfl) (by rw[zcw En.cells 2 En.len]) (Rd.alloc HE7.out (Nat.le_refl _) _) (zd2 En.one _) (by unfold maxLen;omega) (by omega) (by simp) ?_
               intro v1 w8 hown1 hg1
               have hB8:=zcm ((Below.refl w7.heap.size w7).alloc (Nat.le_refl _) _) (by simp) (zdy (n:=2) (sz:=2) w7 89 #[.int .i64 17,.int .u64 ((m:Int)+(z:Int)),.int .i64 18,.int .u64 ((t:Int)+(z:Int))] (Nat.le_refl _) (by rfl) (by unfold maxLen;omega)) hg1
               refine hK.out _ _ ⟨(hB8.cell (p:=⟨w3.heap.size,0,none⟩) gs).trans s0,(hB8.cell (p:=⟨w3.heap.size,1,none⟩) gs).trans s1,(hB8.cell (p:=⟨w2.heap.size,2,none⟩) gr).trans r2⟩ (fun HS4 => ?_)
               have HB8:=hid (HB7.out.trans (hB8.mono HB7.out.size))
               have h1:=zbf hown1 HB7.out.size
               rw[Nat.add_comm] at h1
               have H1:=hid h1
               clear hK K HS3 hB8 hown1 hg1 h1
               simp only[Act.put,List.setIfInBounds_toArray,List.set_cons_zero,List.set_cons_succ]
               refine wpAnyH_take (i:=15) (v:=v1) rfl (by kernel_rfl) (by kernel_rfl) (by kernel_rfl) (fun _ _ _ h=>h) (Or.inl ⟨by kernel_rfl,?_⟩) (by assumption) ?_
               · intro X hX
                 (try dsimp only at hX)
                 go_simp
               dsimp only[Act.put,List.getElem_toArray,List.getElem_cons_zero,List.getElem_cons_succ,List.setIfInBounds_toArray,List.set_cons_zero,List.set_cons_succ]
               refine wpAnyH_take (i:=16) (v:=.int .i64 0) rfl (by kernel_rfl) (by kernel_rfl) (by kernel_rfl) (fun _ _ _ h=>h) (Or.inl ⟨by kernel_rfl,?_⟩) (by assumption) ?_
               · intro X hX
                 (try dsimp only at hX)
                 go_simp
               dsimp only[Act.put,List.getElem_toArray,List.getElem_cons_zero,List.getElem_cons_succ,List.setIfInBounds_toArray,List.set_cons_zero,List.set_cons_succ]
               refine wpAnyH_done (by kernel_rfl) ?_ _
               obtain ⟨A9,c9,rfl⟩:=zbb H1.out
               go_simp
               go_wp2_with fail
               go_ret2
               rw[HV.out]
               refine ⟨⟨A9,c9,rfl,?_⟩,HB8.out⟩
               have h2:=H1.out
               rw[←HCA.out,←HCU.out] at h2
               exact h2
             · have HV:=hid (show zac ws=(zex ws (m:Int) (t:Int),[]) by rw[hsg];unfold zes;rw[hf,ht,if_pos hnx,em,zaa,if_neg hmv])
               have hne:(zex ws (m:Int) (t:Int) != 0)=true:=by rw[bne_iff_ne];exact hmv
               obtain ⟨z,hz2⟩:∃ z,szAt ws m=z:=⟨_,rfl⟩
               obtain ⟨T,hT⟩:∃ T,(bkAt ws m).typ=T:=⟨_,rfl⟩
               obtain ⟨N,hN⟩:∃ N,(bkAt ws m).next=N:=⟨_,rfl⟩
               obtain ⟨E,hE⟩:∃ E,zi3 ws (m:Int) (t:Int)=E:=⟨_,rfl⟩
               obtain ⟨r,hr2⟩:∃ r,zex ws (m:Int) (t:Int)=r:=⟨_,rfl⟩
               rw[hz2,hT,hN] at HNX
               rw[hE,hr2] at HMV
               rw[hr2] at HV hne
               clear hr ho h0 hpr hs hl hph hln hlv hf p1 p2 p3 p4 hb l1 l2 l3 hin hsg hnx a1 a2 em m1 m2 m3 m4 m5 m6 m7 m8 hval hmv hz2 hT hN hE hr2
               go_enter Tryz.func91,Tryz.ntmps91
               go_wp2_with fail
               refine HCK.out.mono ?_
               rintro e w1 ⟨rfl,hB1⟩
               have HB1:=hid hB1
               clear hB1
               go_wp2_with fail
               refine (HLN.out _ (HR.out.up HB1.out HB1.out.size)).mono ?_
               rintro e w2 ⟨rfl,hB2⟩
               have hb2:=HB1.out.trans (hB2.mono HB1.out.size)
               have XN:=hid (Bx.new w2 107 #[.int .i64 4,.int .i64 (f:Int),.int .i64 (t:Int)])
               have HBn:=hid (hb2.alloc hb2.size (.cells #[.int .i64 4,.int .i64 (f:Int),.int .i64 (t:Int)] 107))
               have HRn:=hid (HR.out.up HBn.out HBn.out.size)
               clear hB2 hb2
               go_wp2_with fail
               obtain ⟨q0,q1,q2,-⟩:=XN.out.c3
               refine (HNX.out _ HRn.out).mono ?_
               rintro e w3 ⟨rfl,hB3⟩
               have hb3:=HBn.out.trans (hB3.mono HBn.out.size)
               have XB:=hid (Bx.new w3 55 #[.int .i64 (m:Int),.int .i64 (z:Int),.int .i64 1,.int .i64 T,.bool true,.int .u64 (N:Int)])
               have HB4:=hid (hb3.alloc hb3.size (.cells #[.int .i64 (m:Int),.int .i64 (z:Int),.int .i64 1,.int .i64 T,.bool true,.int .u64 (N:Int)] 55))
               have HR4:=hid (HR.out.up HB4.out HB4.out.size)
               have XP4:=hid ((XN.out.up hB3 XN.out.lt).alloc (.cells #[.int .i64 (m:Int),.int .i64 (z:Int),.int .i64 1,.int .i64 T,.bool true,.int .u64 (N:Int)] 55))
               clear hB3 hb3 q0 q1 q2
               obtain ⟨q0,q1,q2,-⟩:=XP4.out.c3
               obtain ⟨b0,b1,-⟩:=XB.out.c6
               go_wp2_with fail
               refine (HMV.out _ HR4.out).mono ?_
               rintro e w5 ⟨⟨A5,c5,rfl,-⟩,hB5⟩
               have HB5:=hid (HB4.out.trans (hB5.mono HB4.out.size))
               clear q0 q1 q2 b0 b1 hB5
               go_wp2_with fail
               go_ret2
               rw[HV.out]
               exact ⟨zbv rfl rfl,HB5.out⟩
           · have HV:=hid (show zac ws=(6,[]) by rw[hsg];unfold zes;rw[hf,if_neg hnx])
             have hne:(zbj ws (f:Int) != 0)=true:=by rw[bne_iff_ne];exact hnx
             obtain ⟨r,hr2⟩:∃ r,zbj ws (f:Int)=r:=⟨_,rfl⟩
             obtain ⟨B,hBv⟩:∃ B,zhm ws (f:Int)=B:=⟨_,rfl⟩
             rw[hr2,hBv] at HNX
             rw[hr2] at hne
             obtain ⟨xa,xs,xk,xt,xm,xn⟩:=B
             unfold Bk.val at HNX
             dsimp only at HNX
             clear hr ho h0 hpr hs hl hph hln hlv hf p1 p2 p3 p4 hb l1 l2 l3 hin hsg hnx hr2 hBv
             go_enter Tryz.func91,Tryz.ntmps91
             go_wp2_with fail
             refine HCK.out.mono ?_
             rintro e w1 ⟨rfl,hB1⟩
             have HB1:=hid hB1
             clear hB1
             go_wp2_with fail
             refine (HLN.out _ (HR.out.up HB1.out HB1.out.size)).mono ?_
             rintro e w2 ⟨rfl,hB2⟩
             have hb2:=HB1.out.trans (hB2.mono HB1.out.size)
             have XN:=hid (Bx.new w2 107 #[.int .i64 4,.int .i64 (f:Int),.int .i64 (t:Int)])
             have HBn:=hid (hb2.alloc hb2.size (.cells #[.int .i64 4,.int .i64 (f:Int),.int .i64 (t:Int)] 107))
             have HRn:=hid (HR.out.up HBn.out HBn.out.size)
             clear hB2 hb2
             go_wp2_with fail
             obtain ⟨q0,q1,q2,-⟩:=XN.out.c3
             refine (HNX.out _ HRn.out).mono ?_
             rintro e w3 ⟨rfl,hB3⟩
             have hb3:=HBn.out.trans (hB3.mono HBn.out.size)
             have HB4:=hid (hb3.alloc hb3.size (.cells #[.int .i64 xa,.int .i64 xs,.int .i64 xk,.int .i64 xt,.bool xm,.int .u64 (xn:Int)] 55))
             clear hB3 hb3 q0 q1 q2
             go_wp2_with fail
             go_ret2
             rw[HV.out]
             exact ⟨zbv rfl rfl,HB4.out⟩
         · have p0:wd ws 16=0:=by
             rcases (zcp _ _ _).1 hph with h|h|h <;> omega
           rw[p0] at HLN
           simp only[Int.cast_ofNat_Int] at HLN
           have HV:=hid (show zac ws=(6,[]) by unfold zac;rw[if_pos h0,if_neg p1,if_neg p2,if_neg p3,if_neg p4])
           clear hr ho h0 hpr hs hl hph hln hlv hf ht p1 p2 p3 p4 p0 hb l1 l2 l3
           go_enter Tryz.func91,Tryz.ntmps91
           go_wp2_with fail
           refine HCK.out.mono ?_
           rintro e w1 ⟨rfl,hB1⟩
           have HB1:=hid hB1
           clear hB1
           go_wp2_with fail
           refine (HLN.out _ (HR.out.up HB1.out HB1.out.size)).mono ?_
           rintro e w2 ⟨rfl,hB2⟩
           have hb2:=HB1.out.trans (hB2.mono HB1.out.size)
           have XN:=hid (Bx.new w2 107 #[.int .i64 0,.int .i64 (f:Int),.int .i64 (t:Int)])
           have HBn:=hid (hb2.alloc hb2.size (.cells #[.int .i64 0,.int .i64 (f:Int),.int .i64 (t:Int)] 107))
           have HRn:=hid (HR.out.up HBn.out HBn.out.size)
           clear hB2 hb2
           go_wp2_with fail
           go_ret2
           rw[HV.out]
           exact ⟨zbv rfl rfl,HBn.out⟩
 · have HV:=hid (show zac ws=(zao ws,[]) by unfold zac;rw[if_neg h0])
   have hne:(zao ws != 0)=true:=by rw[bne_iff_ne];exact h0
   obtain ⟨r,hr2⟩:∃ r,zao ws=r:=⟨_,rfl⟩
   rw[hr2] at HCK HV hne
   clear hr ho h0 hr2 HLN
   go_enter Tryz.func91,Tryz.ntmps91
   go_wp2_with fail
   refine HCK.out.mono ?_
   rintro e w1 ⟨rfl,hB1⟩
   go_wp2_with fail
   go_ret2
   rw[HV.out]
   exact ⟨zbv rfl rfl,hB1⟩
end Go.Proofs.YtpcajamacpbjcaaGreat
namespace Go.Proofs.YtpcajamacpbjcaaGreat
open Lib (hid)
open Go.RowKit
theorem zda {w w':World} {H n sz:Nat} {e:TypeId} {v:Value} {xs:List Value} {row:Option Nat} (h:w.ownsRow H e sz v n xs) (hb:w.grownBy w' row) (hne:v.ownBlock=none∨v.ownBlock≠row):w'.ownsRow H e sz v n xs:=by
 refine ⟨h.1,?_⟩
 rcases h.2 with h1|⟨g,cap,cur,h1,h2,h3,h4⟩
 · exact .inl h1
 · subst h1
   refine .inr ⟨g,cap,cur,rfl,h2,?_,h4⟩
   have hlt:=(Array.getElem?_eq_some_iff.1 h3).1
   refine (hb.block g hlt ?_).trans h3
   rcases hne with h5|h5
   · simp[Value.ownBlock] at h5
   · exact h5
theorem zCl:(Tryz.prog.info? 26).map (fun i=>(i.zero,i.size,i.bytes))=some (some (.slice none 0 0),1,24):=by kernel_rfl
def OwnC (w:World) (H:Nat) (B:Option Addr) (d:Nat) (L:List Ch):Prop:=w.ownsRow H 26 1 (.slice B L.length d) L.length (L.flatMap Ch.cells)∧∀ x ∈ L,w.ownsRow H 89 2 (.slice x.A x.l.length x.c) x.l.length (x.l.flatMap En.cells)
end Go.Proofs.YtpcajamacpbjcaaGreat
