/- The next marked object from an address on: what the program returns. -/
import Derived.Test.YtpcajamacpbjcaaGreatZKHead
import Derived.WalkMore
namespace Go.Proofs.YtpcajamacpbjcaaGreat
open Lib (hid)
open Go.RowKit
set_option maxRecDepth 100000 in
set_option maxHeartbeats 2000000 in
theorem zHs (A:Option Addr) (ws:List Nat) (c n:Nat) (a:Int) (w:World) (hn:ws.length=n) (hm:n≤9223372036854775807) (ha : -9223372036854775808≤a∧a≤9223372036854775807) (hr:RdW w w.heap.size A ws) (ho:∀ x ∈ ws,x<18446744073709551616) :
   Calls Tryz.prog 145 #[.slice A n c,.int .i64 a] w fun e w'=>e=.returned (.tuple #[(zhm ws a).val,.int .i64 (zbj ws a)])∧Below w.heap.size w w':=by
 subst hn
 have HR:=hid hr
 have HO:=hid ho
 obtain ⟨a1,a2⟩:=ha
 clear hr ho
 have hbd:=Bx.new w 55 #[.int .i64 0,.int .i64 0,.int .i64 0,.int .i64 0,.bool false,.int .u64 0]
 cases hs:zah (ws.length:Int)
 · have HI:=hid (zbw hs)
   obtain ⟨g1,g2⟩:=zvz (zff (a:=a) hs) (by omega)
   have G1:=hid g1
   have G2:=hid g2
   have BD:=hid hbd
   clear hs g1 g2 hbd
   go_enter Tryz.func145,Tryz.ntmps145
   go_wp2_with fail
   go_step3
   go_wp2_with fail
   refine (zay A ws.length c _ hm).mono ?_
   rintro e w1 ⟨rfl,rfl⟩
   rw[HI.out]
   go_wp2_with fail
   rw[Exit.noGoto_ret]
   refine bodyPost_ret (v:=.tuple #[.agg #[.int .i64 0,.int .i64 0,.int .i64 0,.int .i64 0,.bool false,.int .u64 0],.int .i64 8]) (za6 Tryz.results145 _ BD.out rfl rfl) rfl ⟨by rw[G1.out,G2.out];rfl,(Below.refl _ _).alloc (Nat.le_refl _) _⟩
 · have HI:=hid (zbc hs)
   have hb:=zi5 (zbc hs)
   obtain ⟨hb1,hb2,hb3⟩:=hb
   have HB3:=hid hb3
   have HS:=hid hs
   clear hs hb3 hm
   by_cases hbad:128≤a∧a≤(ws.length:Int)∧a % 2=0
   · obtain ⟨a3,a4,a5⟩:=hbad
     have hev:(a % 2 != 0)=false:=by rw[bne_eq_false_iff_eq];exact a5
     have d1:decide (a<128)=false:=by rw[decide_eq_false_iff_not];omega
     have d2:decide ((ws.length:Int)<a)=false:=by rw[decide_eq_false_iff_not];omega
     have HFR:=hid (zlm A ws c ws.length a (w.alloc (.cells #[.int .i64 0,.int .i64 0,.int .i64 0,.int .i64 0,.bool false,.int .u64 0] 55)) rfl (by omega) ((HR.out.alloc (Nat.le_refl _) _).more (by simp)) HO.out)
     rw[World.size_alloc] at HFR
     have BD:=hid hbd
     clear a5 hbd
     go_enter Tryz.func145,Tryz.ntmps145
     go_wp2_with fail
     go_step3
     go_wp2_with fail
     refine (zay A ws.length c _ (by omega)).mono ?_
     rintro e w1 ⟨rfl,rfl⟩
     rw[HI.out]
     go_wp2_with fail
     refine HFR.out.mono ?_
     rintro e w1 ⟨⟨A1,c1,rfl,hrd,hcl⟩,hB1⟩
     have hb1:=zan hB1
     have hz1:=hb1.size
     have b0:=Bx.of_new hB1
     have hz1':=b0.lt
     have HCL:=hid hcl
     obtain ⟨l,hl⟩:∃ l,za5 ws a=l:=⟨_,rfl⟩
     have HL:=hid hl
     rw[hl] at hrd ⊢
     have HRD:=hid hrd
     obtain ⟨r,hr⟩:∃ r,zca ws a=r:=⟨_,rfl⟩
     have HER:=hid hr
     rw[hr]
     clear hl hrd hcl
     by_cases hr0:r=0
     · subst hr0
       go_wp2_with fail
       go_step3
       go_wp2_with fail
       have HB0:=hid b0
       have HB1:=hid hb1
       have hlen:l.length≤4611686018427387904:=by
        rw[←HL.out];exact zgx ws a
       have bf:=Bx.new w1 55 #[.int .i64 0,.int .i64 0,.int .i64 0,.int .i64 0,.bool false,.int .u64 0]
       clear hr b0 hb1 hB1
       go_loopg [8,44] l.length (fun g s8 i wr=>∃ k:Nat,k+g=l.length∧i=.int .i64 k∧s8=.int .i64 6∧Hid (zeq l k)∧Bx wr w1.heap.size 55 #[.int .i64 0,.int .i64 0,.int .i64 0,.int .i64 0,.bool false,.int .u64 0]∧Below w1.heap.size w1 wr)
       case atStart=>exact ⟨0,by omega,rfl,rfl,zmy l,bf,(Below.refl _ _).alloc (Nat.le_refl _) _⟩
       case round =>
        obtain ⟨k,hk,rfl,rfl,HNM,bx,hB⟩:=hrel
        have hz:=hB.size
        by_cases hlt:k<l.length
        · obtain ⟨b,off,rfl,hbw,q0,q1,q2,q3,q4,q5⟩:=RdB.at_ (HRD.out.below hB) hlt
          have HGK:=hid (zbt l k hlt)
          obtain ⟨x,hx⟩:∃ x,l[k]=x:=⟨_,rfl⟩
          rw[hx] at q0 q1 q2 q3 q4 q5 HGK
          obtain ⟨xa,xs,xk,xt,xm,xn⟩:=x
          dsimp only at q0 q1 q2 q3 q4 q5
          have BX:=hid bx
          obtain ⟨c0,c1',c2,c3,c4,c5,cf,cz⟩:=bx.c6
          have cf0:=cf 0
          have cf1:=cf 1
          have cf2:=cf 2
          have cf3:=cf 3
          have cf4:=cf 4
          have cf5:=cf 5
          have hlm:(k:Int)<(l.length:Int):=by omega
          clear hx bx cf
          cases xm
          · go_wp2_with fail
            go_roundg (gk - 1)
            case rel=>exact ⟨k+1,by omega,by go_num,rfl,zmo HNM.out (by rw[HGK.out]),BX.out.alloc _,hB.alloc hz _⟩
            case measure=>omega
          · have hd:=HB0.out.up hB (by omega)
            have hnew:=Bx.new wr 55 #[.int .i64 xa,.int .i64 xs,.int .i64 xk,.int .i64 xt,.bool true,.int .u64 (xn:Int)]
            have HBA:=hid (hB.alloc hz (.cells #[.int .i64 xa,.int .i64 xs,.int .i64 xk,.int .i64 xt,.bool true,.int .u64 (xn:Int)] 55))
            have HD:=hid (hd.alloc (.cells #[.int .i64 xa,.int .i64 xs,.int .i64 xk,.int .i64 xt,.bool true,.int .u64 (xn:Int)] 55))
            have BX9:=hid (BX.out.alloc (.cells #[.int .i64 xa,.int .i64 xs,.int .i64 xk,.int .i64 xt,.bool true,.int .u64 (xn:Int)] 55))
            have HNEW:=hid hnew
            have hi6:=zpo
            clear hd hnew
            clear c0 c1' c2 c3 c4 c5 cf0 cf1 cf2 cf3 cf4 cf5
            go_upto_region 15 with (fail)
            obtain ⟨wn,hwn⟩:∃ wn,wr.alloc (.cells #[.int .i64 xa,.int .i64 xs,.int .i64 xk,.int .i64 xt,.bool true,.int .u64 (xn:Int)] 55)=wn:=⟨_,rfl⟩
            rw[hwn] at HD BX9 HBA HNEW ⊢
            clear hwn
            go_wp2_with (first
             | ((with_reducible refine zh9 55 (.tmp 11) ?_);refine wpList_load_row rfl _ _ rfl wr.heap.size (by rfl) 55 #[.int .i64 xa,.int .i64 xs,.int .i64 xk,.int .i64 xt,.bool true,.int .u64 (xn:Int)] (0,0) _ HNEW.out Tryz.underlying55 (by rfl) hi6 ?_)
             | ((with_reducible refine zbu 55 (.tmp 9) _ ?_);refine zai rfl _ _ _ rfl w1.heap.size 55 #[.int .i64 0,.int .i64 0,.int .i64 0,.int .i64 0,.bool false,.int .u64 0] #[.int .i64 xa,.int .i64 xs,.int .i64 xk,.int .i64 xt,.bool true,.int .u64 (xn:Int)] (by rfl) (by rfl) BX9.out rfl hi6 (zpc _ _ _ _ _ _) ?_;intro w2 hb2 ha2;have HB2:=hid hb2;have HA2:=hid ha2;clear hb2 ha2)
             | ((with_reducible refine zh9 55 (.tmp 9) ?_);refine wpList_load_row rfl _ _ rfl w1.heap.size (by rfl) 55 #[.int .i64 xa,.int .i64 xs,.int .i64 xk,.int .i64 xt,.bool true,.int .u64 (xn:Int)] (0,0) _ HB2.out Tryz.underlying55 (by rfl) hi6 ?_)
             | ((with_reducible refine zbu 55 (.tmp 4) _ ?_);refine zai rfl _ _ _ rfl w.heap.size 55 #[.int .i64 0,.int .i64 0,.int .i64 0,.int .i64 0,.bool false,.int .u64 0] #[.int .i64 xa,.int .i64 xs,.int .i64 xk,.int .i64 xt,.bool true,.int .u64 (xn:Int)] (by rfl) (by rfl) (HA2.out.bx HD.out (by omega)) rfl hi6 (zpc _ _ _ _ _ _) ?_;intro w3 hb3 ha3;have HB3:=hid hb3;have HA3:=hid ha3;clear hb3 ha3))
            rw[Exit.noGoto_ret]
            obtain ⟨g1,g2⟩:=zta HER.out HL.out hlt HNM.out (by rw[HGK.out])
            exact bodyPost_ret (v:=.tuple #[.agg #[.int .i64 xa,.int .i64 xs,.int .i64 xk,.int .i64 xt,.bool true,.int .u64 (xn:Int)],.int .i64 0]) (za6 Tryz.results145 _ HB3.out rfl rfl) rfl ⟨by rw[g1,g2,HGK.out];rfl,HA3.out.below (HA2.out.below (HB1.out.trans (HBA.out.mono hz1)) hz1) (Nat.le_refl _)⟩
        · have hk2:k=l.length:=by omega
          have hd:=HB0.out.up hB (by omega)
          have HD:=hid hd
          have BX:=hid bx
          have hi6:=zpo
          have HG:=hid (zDr HER.out HL.out (by rw[←hk2];exact HNM.out))
          clear hd bx hk2
          go_wp2_with (first
            | ((with_reducible refine zh9 55 (.tmp 9) ?_);refine wpList_load_row rfl _ _ rfl w1.heap.size (by rfl) 55 #[.int .i64 0,.int .i64 0,.int .i64 0,.int .i64 0,.bool false,.int .u64 0] (0,0) _ BX.out Tryz.underlying55 (by rfl) hi6 ?_)
            | ((with_reducible refine zbu 55 (.tmp 4) _ ?_);refine zai rfl _ _ _ rfl w.heap.size 55 #[.int .i64 0,.int .i64 0,.int .i64 0,.int .i64 0,.bool false,.int .u64 0] #[.int .i64 0,.int .i64 0,.int .i64 0,.int .i64 0,.bool false,.int .u64 0] (by rfl) (by rfl) HD.out rfl hi6 (zpc _ _ _ _ _ _) ?_;intro w3 hb3 ha3;have HB3:=hid hb3;have HA3:=hid ha3;clear hb3 ha3))
          rw[Exit.noGoto_ret]
          exact bodyPost_ret (v:=.tuple #[.agg #[.int .i64 0,.int .i64 0,.int .i64 0,.int .i64 0,.bool false,.int .u64 0],.int .i64 6]) (za6 Tryz.results145 _ HB3.out rfl rfl) rfl ⟨by rw[HG.out.1,HG.out.2];rfl,HA3.out.below (HB1.out.trans (hB.mono hz1)) (Nat.le_refl _)⟩
     · have hn1:(r != 0)=true:=by rw[bne_iff_ne];exact hr0
       obtain ⟨g1,g2⟩:=zvz HER.out hr0
       have G1:=hid g1
       have G2:=hid g2
       obtain ⟨c0,c1',c2,c3,c4,c5,cf,cz⟩:=b0.c6
       have cf0:=cf 0
       have cf1:=cf 1
       have cf2:=cf 2
       have cf3:=cf 3
       have cf4:=cf 4
       have cf5:=cf 5
       have B0:=hid b0
       clear hr hr0 g1 g2 cf b0 hB1
       go_wp2_with fail
       rw[Exit.noGoto_ret]
       refine bodyPost_ret (v:=.tuple #[.agg #[.int .i64 0,.int .i64 0,.int .i64 0,.int .i64 0,.bool false,.int .u64 0],.int .i64 r]) (za6 Tryz.results145 _ (zlf B0.out _ _ _ _ _ _) rfl rfl) rfl ⟨by rw[G1.out,G2.out];rfl,zfd hb1 (Nat.le_refl _) _ _ _ _ _ _⟩
   · have HE:=hid (zhw HS.out (znm hbad))
     obtain ⟨g1,g2⟩:=zvz HE.out (by omega)
     have G1:=hid g1
     have G2:=hid g2
     have BD:=hid hbd
     clear g1 g2 hbd
     have hways:=zEm hbad
     clear hbad
     rcases hways with ⟨h1,h2⟩|⟨⟨h1,h2⟩,h3⟩|⟨h1,h2,h3⟩
     all_goals
       go_enter Tryz.func145,Tryz.ntmps145
       go_wp2_with fail
       go_step3
       go_wp2_with fail
       refine (zay A ws.length c _ (by omega)).mono ?_
       rintro e w1 ⟨rfl,rfl⟩
       rw[HI.out]
       go_wp2_with fail
       rw[Exit.noGoto_ret]
       refine bodyPost_ret (v:=.tuple #[.agg #[.int .i64 0,.int .i64 0,.int .i64 0,.int .i64 0,.bool false,.int .u64 0],.int .i64 2]) (za6 Tryz.results145 _ BD.out rfl rfl) rfl ⟨by rw[G1.out,G2.out];rfl,(Below.refl _ _).alloc (Nat.le_refl _) _⟩
end Go.Proofs.YtpcajamacpbjcaaGreat
