/- CompactHandles: the walk. -/
import Derived.Test.YtpcajamacpbjcaaGreatZChP
import Derived.Test.YtpcajamacpbjcaaGreatZKCo
import Derived.Test.YtpcajamacpbjcaaGreatZKRch
namespace Go.Proofs.YtpcajamacpbjcaaGreat
open Lib (hid)
open Go.RowKit
theorem zys (ws:List Nat):(za3 ws).length≤ws.length:=by
 unfold za3
 split
 · rw[List.length_map]
   refine Nat.le_trans (List.length_filter_le _ _) ?_
   rw[List.length_range];exact Nat.le_refl _
 · exact Nat.zero_le _
set_option maxRecDepth 100000 in
set_option maxHeartbeats 16000000 in
theorem zjd (A:Option Addr) (ws:List Nat) (c n:Nat) (w:World) (hn:ws.length=n) (hm:n≤9223372036854775807) (hc:n≤c) (hr:RdW w w.heap.size A ws) (ho:∀ x ∈ ws,x<18446744073709551616) :
   Calls Tryz.prog 4 #[.slice A n c] w fun e w'=>e=.returned (.bool true)∧Below w.heap.size w w':=by
 subst hn
 have HR:=hid hr
 have HG:=hid (fun W=>zzj A ws.length c W hm)
 have H19:=hid (fun W (h:RdW W W.heap.size A ws)=>zw5 A ws c ws.length W rfl hm hc h ho)
 cases hg:zoq ws.length
 · rw[hg] at HG
   by_cases h0:zcz ws=0
   · obtain ⟨hs,hl⟩:=zni h0
     obtain ⟨t,L⟩:=zq3 hl
     obtain ⟨F,hcc,LZ,hzl,hzo⟩:=L.ch ho
     have hb:=(zad _).1 hs
     have HV:=hid (fun W (h:RdW W W.heap.size A ws)=>zl6 A ws c ws.length W rfl hm hc h ho)
     have HVZ:=hid (fun B d W (hd:ws.length≤d) (h:RdW W W.heap.size B (cpZ ws))=>zl6 B (cpZ ws) d ws.length W hzl hm hd h hzo)
     unfold zI5 at HV HVZ
     rw[h0] at HV
     rw[zqv LZ,hcc,hzl] at HVZ
     have HRC:=hid (fun W (h:RdW W W.heap.size A ws)=>zok A ws c ws.length W rfl hm h ho)
     have HRZ:=hid (fun B d W (h:RdW W W.heap.size B (cpZ ws))=>zok B (cpZ ws) d ws.length W hzl hm h hzo)
     unfold zz6 at HRC HRZ
     rw[F.rw_] at HRC
     rw[F.rz,F.len] at HRZ
     have HHC:=hid (fun W (h:RdW W W.heap.size A ws)=>zwa A ws c ws.length W rfl hm h ho)
     have HHZ:=hid (fun B d W (h:RdW W W.heap.size B (cpZ ws))=>zwa B (cpZ ws) d ws.length W hzl hm h hzo)
     unfold zHh at HHC HHZ
     obtain ⟨e1,e2⟩:=zf3 L.size L.sls
     obtain ⟨e3,e4⟩:=zf3 LZ.size LZ.sls
     rw[e1,e2,zcy] at HHC
     rw[e3,e4,zcy] at HHZ
     have HWA:=hid (fun B d W (h:RdW W W.heap.size B (cpZ ws))=>wAll_c B (cpZ ws) d ws.length W hzl hm h hzo)
     unfold zJd at HWA
     rw[F.wa] at HWA
     have HSW:=hid (fun B d C e W (h1:RdW W W.heap.size B (cpZ ws)) (h2:RdW W W.heap.size C (cpZ ws))=>zi7 B C (cpZ ws) (cpZ ws) ws.length ws.length d e W.heap.size W hzl hzl (by omega) h1 h2 (Nat.le_refl _))
     rw[show decide (cpZ ws=cpZ ws)=true by simp] at HSW
     rw[h0] at H19
     have hlr:(za3 ws).length≤2048:=by have:=zys ws;omega
     have hlb:(zdv (cpZ ws)).length≤2048:=by
      rw[(wa_hp LZ).2]
      have:=ztm (cpZ ws) LZ.hp
      omega
     have HSA:Hid (∀ i,i<16→∃ g v g2 v2:Nat,(slL ws)[i]? = some ⟨(g:Int),(slAt ws i).used,(v:Int)⟩∧(slL (cpZ ws))[i]? = some ⟨(g:Int),(slAt ws i).used,(v2:Int)⟩∧g2=g∧((slAt ws i).used=true→∃ m:Nat,m<(za3 ws).length∧zh0 (za3 ws) (v:Int) (za3 ws).length=(m:Int)∧(za3 (cpZ ws))[m]? = some (v2:Int))):=hid fun i hi=>by
      have q1:(slL ws)[i]? = some (slAt ws i):=by rw[List.getElem?_eq_getElem (by rw[zcy];exact hi),zjh]
      have q2:(slL (cpZ ws))[i]? = some (slAt (cpZ ws) i):=by rw[List.getElem?_eq_getElem (by rw[zcy];exact hi),zjh]
      have q3:=F.gen i hi
      have q4:=F.used i hi
      have q5:=F.at_ i hi
      refine ⟨wd ws (112+i) / 4294967296 % 2147483648,wd ws (112+i) % 4294967296,_,wd (cpZ ws) (112+i) % 4294967296,q1,?_,rfl,fun hu => ?_⟩
      · rw[q2]
        refine congrArg some ?_
        show (⟨(slAt (cpZ ws) i).gen,(slAt (cpZ ws) i).used,_⟩:Sl)=_
        rw[q3,q4]
        rfl
      · obtain ⟨m,m1,m2,m3,m4⟩:=q5 hu
        exact ⟨m,m1,m3,by rw[List.getElem?_eq_getElem m2,m4];rfl⟩
     have HFR:=hid F.free
     have HSL:=hid (zcy ws)
     have HSLZ:=hid (zcy (cpZ ws))
     have HLZ:=hid F.len
     clear hs hl hb e1 e2 e3 e4 h0 hr ho L LZ hcc hzl hzo F hg
     generalize cpZ ws=Z at *
     go_enter Tryz.func4,Tryz.ntmps4
     go_wp2_with fail
     refine (zmv w).mono ?_
     rintro e w1 ⟨rfl,hB1⟩
     have HB1:=hid hB1
     clear hB1
     go_wp2_with fail
     refine (HG.out _).mono ?_
     rintro e w1' ⟨rfl,rfl⟩
     go_wp2_with fail
     refine (H19.out _ (HR.out.up HB1.out HB1.out.size)).mono ?_
     rintro e w2 ⟨rfl,hB2⟩
     have HB2:=hid (HB1.out.trans (hB2.mono HB1.out.size))
     clear hB2
     go_wp2_with fail
     refine (HV.out _ (HR.out.up HB2.out HB2.out.size)).mono ?_
     rintro e w3 ⟨⟨hv,-⟩,hB3⟩
     obtain ⟨g3,c3,rfl,hown3⟩:=hv trivial
     have HB3:=hid (HB2.out.trans (hB3.mono HB2.out.size))
     have HZ3:=hid (show RdW _ _ _ Z from Rd.of_own hown3)
     have hc3:=zfo hown3
     clear hv hown3 hB3
     go_wp2_with fail
     refine (HVZ.out _ _ _ hc3 HZ3.out).mono ?_
     rintro e w4 ⟨⟨hv,-⟩,hB4⟩
     obtain ⟨g4,c4,rfl,hown4⟩:=hv trivial
     have HB4:=hid (HB3.out.trans (hB4.mono HB3.out.size))
     have HZ4:=hid (HZ3.out.up hB4 hB4.size)
     have HY4:=hid (show RdW _ _ _ Z from Rd.of_own hown4)
     clear hv hown4 hB4
     go_wp2_with fail
     refine (HRC.out _ (HR.out.up HB4.out HB4.out.size)).mono ?_
     rintro e w5 ⟨⟨A5,c5,rfl,hr5,-⟩,hB5⟩
     have HB5:=hid (HB4.out.trans (hB5.mono HB4.out.size))
     have HZ5:=hid (HZ4.out.up hB5 hB5.size)
     have HY5:=hid (HY4.out.up hB5 hB5.size)
     have HA5:=hid hr5
     clear hr5 hB5
     go_wp2_with fail
     refine (HRZ.out _ _ _ HZ5.out).mono ?_
     rintro e w6 ⟨⟨A6,c6,rfl,hr6,-⟩,hB6⟩
     have HB6:=hid (HB5.out.trans (hB6.mono HB5.out.size))
     have HZ6:=hid (HZ5.out.up hB6 hB6.size)
     have HY6:=hid (HY5.out.up hB6 hB6.size)
     have HA6:=hid (show RdI _ _ _ _ from HA5.out.up hB6 hB6.size)
     have HC6:=hid hr6
     clear hr6 hB6
     go_wp2_with fail
     refine (HHC.out _ (HR.out.up HB6.out HB6.out.size)).mono ?_
     rintro e w7 ⟨⟨A7,c7,rfl,hr7,-⟩,hB7⟩
     have HB7:=hid (HB6.out.trans (hB7.mono HB6.out.size))
     have HZ7:=hid (HZ6.out.up hB7 hB7.size)
     have HY7:=hid (HY6.out.up hB7 hB7.size)
     have HA7:=hid (show RdI _ _ _ _ from HA6.out.up hB7 hB7.size)
     have HC7:=hid (show RdI _ _ _ _ from HC6.out.up hB7 hB7.size)
     have HO7:=hid hr7
     clear hr7 hB7
     go_wp2_with fail
     refine (HHZ.out _ _ _ HZ7.out).mono ?_
     rintro e w8 ⟨⟨A8,c8,rfl,hr8,-⟩,hB8⟩
     have HB8:=hid (HB7.out.trans (hB8.mono HB7.out.size))
     have HZ8:=hid (HZ7.out.up hB8 hB8.size)
     have HY8:=hid (HY7.out.up hB8 hB8.size)
     have HA8:=hid (show RdI _ _ _ _ from HA7.out.up hB8 hB8.size)
     have HC8:=hid (show RdI _ _ _ _ from HC7.out.up hB8 hB8.size)
     have HO8:=hid (show RdS _ _ _ _ from HO7.out.up hB8 hB8.size)
     have HN8:=hid hr8
     clear hr8 hB8
     go_wp2_with fail
     refine (HWA.out _ _ _ HZ8.out).mono ?_
     rintro e w9 ⟨⟨A9,c9,rfl,hr9,-⟩,hB9⟩
     have HB9:=hid (HB8.out.trans (hB9.mono HB8.out.size))
     have HZ9:=hid (HZ8.out.up hB9 hB9.size)
     have HY9:=hid (HY8.out.up hB9 hB9.size)
     have HA9:=hid (show RdI _ _ _ _ from HA8.out.up hB9 hB9.size)
     have HC9:=hid (show RdI _ _ _ _ from HC8.out.up hB9 hB9.size)
     have HO9:=hid (show RdS _ _ _ _ from HO8.out.up hB9 hB9.size)
     have HN9:=hid (show RdS _ _ _ _ from HN8.out.up hB9 hB9.size)
     have HL9:=hid hr9
     clear hr9 hB9
     go_wp2_with fail
     refine (HSW.out _ _ _ _ _ HZ9.out HY9.out).mono ?_
     rintro e w10 ⟨rfl,hB10⟩
     have HB10:=hid (HB9.out.trans (hB10.mono HB9.out.size))
     have HA10:=hid (show RdI _ _ _ _ from HA9.out.up hB10 hB10.size)
     have HC10:=hid (show RdI _ _ _ _ from HC9.out.up hB10 hB10.size)
     have HO10:=hid (show RdS _ _ _ _ from HO9.out.up hB10 hB10.size)
     have HN10:=hid (show RdS _ _ _ _ from HN9.out.up hB10 hB10.size)
     have HL10:=hid (show RdB _ _ _ _ from HL9.out.up hB10 hB10.size)
     clear hB10 hc3
     go_wp2_with fail
     have HTZ:=hid (fun k=>show zh0 (za3 ws) k 0 = -1 from rfl)
     clear HG H19 HV HVZ HRC HRZ HHC HHZ HWA HSW HLZ
     clear HB1 HB2 HB3 HB4 HB5 HB6 HB7 HB8 HB9 HZ3 HZ4 HZ5 HZ6 HZ7 HZ8 HZ9 HY4 HY5 HY6 HY7 HY8 HY9 HA5 HA6 HA7 HA8 HA9 HC6 HC7 HC8 HC9 HO7 HO8 HO9 HN8 HN9 HL9
     go_loopw [18] (fun i wr=>∃ k:Nat,k≤16∧i=.int .i64 k∧Below w10.heap.size w10 wr) (fun i _=>16 - (intOf i).toNat)
     case atStart=>exact ⟨0,by omega,rfl,Below.refl _ _⟩
     case round =>
      obtain ⟨k,hk,rfl,hB⟩:=hrel
      by_cases hlt:k<16
      · obtain ⟨g,v,g2,v2,q1,q2,-,q3⟩:=HSA.out k hlt
        have hk1:k<(slL ws).length:=by rw[HSL.out];exact hlt
        have hk2:k<(slL Z).length:=by rw[HSLZ.out];exact hlt
        obtain ⟨b7,o7,rfl,hb7,p0,p1,p2⟩:=RdS.at_ HO10.out hk1
        obtain ⟨b8,o8,rfl,hb8,r0,r1,r2⟩:=RdS.at_ HN10.out hk2
        rw[List.getElem?_eq_getElem hk1,Option.some.injEq] at q1
        rw[List.getElem?_eq_getElem hk2,Option.some.injEq] at q2
        rw[q1] at p0 p1 p2
        rw[q2] at r0 r1 r2
        dsimp only at p0 p1 p2 r0 r1 r2
        have P0:=fun W (h:Below w10.heap.size w10 W)=>(h.cell (p:=⟨b7,o7+k * 3,none⟩) hb7).trans p0
        have P1:=fun W (h:Below w10.heap.size w10 W)=>(h.cell (p:=⟨b7,o7+k * 3+1,none⟩) hb7).trans p1
        have P2:=fun W (h:Below w10.heap.size w10 W)=>(h.cell (p:=⟨b7,o7+k * 3+2,none⟩) hb7).trans p2
        have R0:=fun W (h:Below w10.heap.size w10 W)=>(h.cell (p:=⟨b8,o8+k * 3,none⟩) hb8).trans r0
        have R1:=fun W (h:Below w10.heap.size w10 W)=>(h.cell (p:=⟨b8,o8+k * 3+1,none⟩) hb8).trans r1
        have R2:=fun W (h:Below w10.heap.size w10 W)=>(h.cell (p:=⟨b8,o8+k * 3+2,none⟩) hb8).trans r2
        have HP0:=hid P0
        have HP1:=hid P1
        have HP2:=hid P2
        have HR0:=hid R0
        have HR1:=hid R1
        have HR2:=hid R2
        obtain ⟨u,hu⟩:∃ u,(slAt ws k).used=u:=⟨_,rfl⟩
        rw[hu] at HP1 HR1 q3
        have HQ3:=hid q3
        have hki:(k:Int)<16:=by omega
        have hk0:(0:Int)≤(k:Int):=by omega
        have x0:=HP0.out wr hB
        have x1:=HP1.out wr hB
        have y0:=HR0.out wr hB
        have y1:=HR1.out wr hB
        have HB:=hid hB
        clear q1 q2 q3 hk1 hk2 p0 p1 p2 r0 r1 r2 P0 P1 P2 R0 R1 R2 hu hB
        cases u
        · go_wp2_with fail
          go_quiet (fail)
          go_wp2_with fail
          have HBq:=hid (zcr HB.out nq)
          go_loopw [20] (fun m wr=>m=.int .i64 0∧Below w10.heap.size w10 wr) (fun _ _=>0)
          case atStart=>exact ⟨rfl,HBq.out⟩
          case round =>
            obtain ⟨rfl,hB⟩:=hrel
            have x1:=HP1.out wr hB
            by_cases hL:0<(za3 ws).length
            · have hLi:(0:Int)<((za3 ws).length:Int):=by omega
              go_wp2_with fail
              go_quiet (fail)
              go_wp2_with fail
              go_roundw
              case rel=>exact ⟨k+1,by omega,by go_num,by first | exact hB | exact zcr hB _ | exact hB.drew⟩
              case measure=>simp[intOf];omega
            · have hLi:decide ((0:Int)<((za3 ws).length:Int))=false:=by rw[decide_eq_false_iff_not];omega
              have hLn:decide (0<(za3 ws).length)=false:=by rw[decide_eq_false_iff_not];exact hL
              clear hL
              go_wp2_with fail
              go_quiet (fail)
              go_wp2_with fail
              go_roundw
              case rel=>exact ⟨k+1,by omega,by go_num,by first | exact hB | exact zcr hB _ | exact hB.drew⟩
              case measure=>simp[intOf];omega
        · obtain ⟨m,hm1,hm2,hm3⟩:=HQ3.out rfl
          have hz2:m<(za3 Z).length:=(List.getElem?_eq_some_iff.1 hm3).1
          have hbz:∃ b off,A6=some ⟨b,off,none⟩∧∀ W,Below w10.heap.size w10 W→W.cell? ⟨b,off+m,none⟩=some (.int .i64 (v2:Int)):=by
            obtain ⟨b,off,e,hb,hc⟩:=RdI.at_ HC10.out hz2
            rw[(List.getElem?_eq_some_iff.1 hm3).2] at hc
            exact ⟨b,off,e,fun W h=>(h.cell (p:=⟨b,off+m,none⟩) hb).trans hc⟩
          obtain ⟨b6,o6,rfl,hC6⟩:=hbz
          have HC6:=hid hC6
          have HM2:=hid hm2
          have hmi:(m:Int)<((za3 ws).length:Int):=by omega
          have hm0:(0:Int)≤(m:Int):=by omega
          have hmn:decide ((m:Int)<0)=false:=by rw[decide_eq_false_iff_not];omega
          clear hm2 hm3 hC6 hz2
          go_wp2_with fail
          go_quiet (fail)
          go_wp2_with fail
          have HBq:=hid (zcr HB.out nq)
          go_loopw [20,19] (fun i at_ wr=>∃ j:Nat,j≤(za3 ws).length∧i=.int .i64 j∧at_=.int .i64 (zh0 (za3 ws) (v:Int) j)∧Below w10.heap.size w10 wr) (fun i _ _=>(za3 ws).length - (intOf i).toNat)
          case atStart=>exact ⟨0,Nat.zero_le _,rfl,by rw[HTZ.out],HBq.out⟩
          case round =>
            obtain ⟨j,hj,rfl,rfl,hB⟩:=hrel
            have x1:=HP1.out wr hB
            have x2:=HP2.out wr hB
            by_cases hjl:j<(za3 ws).length
            · obtain ⟨b5,o5,rfl,hb5,z0⟩:=RdI.at_ HA10.out hjl
              have z0:=(hB.cell (p:=⟨b5,o5+j,none⟩) hb5).trans z0
              have HLS:=hid (show zh0 (za3 ws) (v:Int) (j+1)=if (za3 ws)[j]=(v:Int) then (j:Int) else zh0 (za3 ws) (v:Int) j by
                show (if (za3 ws)[j]?.getD 0=(v:Int) then (j:Int) else zh0 (za3 ws) (v:Int) j)=_
                rw[List.getElem?_eq_getElem hjl,Option.getD_some])
              have hji:(j:Int)<((za3 ws).length:Int):=by omega
              have hj0:(0:Int)≤(j:Int):=by omega
              obtain ⟨q,hq⟩:∃ q,(za3 ws)[j]=q:=⟨_,rfl⟩
              rw[hq] at z0 HLS
              obtain ⟨la,hla⟩:∃ la,zh0 (za3 ws) (v:Int) j=la:=⟨_,rfl⟩
              rw[hla] at HLS ⊢
              clear hq hla
              by_cases hqv:q=(v:Int)
              · subst hqv
                have HLT:=hid (HLS.out.trans (if_pos rfl))
                go_wp2_with fail
                go_quiet (fail)
                go_wp2_with fail
                go_roundw
                case rel=>exact ⟨j+1,by omega,by go_num,by rw[HLT.out],by first | exact hB | exact zcr hB _ | exact hB.drew⟩
                case measure=>simp[intOf];omega
              · have HLT:=hid (HLS.out.trans (if_neg hqv))
                have e1:(q == (v:Int))=false:=by rw[beq_eq_false_iff_ne];exact hqv
                clear hqv
                go_wp2_with fail
                go_quiet (fail)
                go_wp2_with fail
                go_roundw
                case rel=>exact ⟨j+1,by omega,by go_num,by rw[HLT.out],by first | exact hB | exact zcr hB _ | exact hB.drew⟩
                case measure=>simp[intOf];omega
            · have hje:j=(za3 ws).length:=by omega
              rw[hje,HM2.out]
              have hLi:decide (((za3 ws).length:Int)<((za3 ws).length:Int))=false:=by simp
              have z6:=HC6.out wr hB
              have y2:=HR2.out wr hB
              clear hje hjl hj
              go_wp2_with fail
              go_quiet (fail)
              go_wp2_with fail
              go_roundw
              case rel=>exact ⟨k+1,by omega,by go_num,by first | exact hB | exact zcr hB _ | exact hB.drew⟩
              case measure=>simp[intOf];omega
      · have hend:decide ((k:Int)<16)=false:=by rw[decide_eq_false_iff_not];omega
        have hendn:decide (k<16)=false:=by rw[decide_eq_false_iff_not];exact hlt
        have HB:=hid hB
        clear hlt hk hB
        go_wp2_with fail
        go_loopw [21] (fun i wr=>∃ j:Nat,j≤(zdv Z).length∧i=.int .i64 j∧Below w10.heap.size w10 wr) (fun i _=>(zdv Z).length - (intOf i).toNat)
        case atStart=>exact ⟨0,Nat.zero_le _,rfl,HB.out⟩
        case round =>
          obtain ⟨j,hj,rfl,hB⟩:=hrel
          by_cases hjl:j<(zdv Z).length
          · obtain ⟨b9,o9,rfl,hb9,-,-,z2,-,-,-⟩:=RdB.at_ (show RdB wr w10.heap.size A9 (zdv Z) from Rd.below HL10.out hB) hjl
            have HF:=hid (HFR.out j hjl)
            have hji:(j:Int)<((zdv Z).length:Int):=by omega
            have hj0:(0:Int)≤(j:Int):=by omega
            have hw1:IntKind.i64.wrap (((zdv Z).length:Int) - 1)=((zdv Z).length:Int) - 1:=IntWalk.i64_in _ (by omega)
            obtain ⟨q,hq⟩:∃ q,(zdv Z)[j].kind=q:=⟨_,rfl⟩
            rw[hq] at z2 HF
            clear hq
            by_cases hq2:q=2
            · subst hq2
              have hd:decide ((j:Int)<((zdv Z).length:Int) - 1)=false:=by rw[decide_eq_false_iff_not];have:=HF.out rfl;omega
              go_wp2_with fail
              go_roundw
              case rel=>exact ⟨j+1,by omega,by go_num,hB⟩
              case measure=>simp[intOf];omega
            · have e1:(q == 2)=false:=by rw[beq_eq_false_iff_ne];exact hq2
              clear hq2
              go_wp2_with fail
              go_roundw
              case rel=>exact ⟨j+1,by omega,by go_num,hB⟩
              case measure=>simp[intOf];omega
          · have hend:decide ((j:Int)<((zdv Z).length:Int))=false:=by rw[decide_eq_false_iff_not];omega
            have hendn:decide (j<(zdv Z).length)=false:=by rw[decide_eq_false_iff_not];exact hjl
            clear hjl hj
            go_wp2_with fail
            go_ret
            exact ⟨rfl,HB10.out.trans (hB.mono HB10.out.size)⟩
   · obtain ⟨r,hr2⟩:∃ r,zcz ws=r:=⟨_,rfl⟩
     rw[hr2] at H19 h0
     have e1:(r != 0)=true:=by rw[bne_iff_ne];exact h0
     clear hr ho h0 hr2 hg
     go_enter Tryz.func4,Tryz.ntmps4
     go_wp2_with fail
     refine (zmv w).mono ?_
     rintro e w1 ⟨rfl,hB1⟩
     have HB1:=hid hB1
     clear hB1
     go_wp2_with fail
     refine (HG.out _).mono ?_
     rintro e w1' ⟨rfl,rfl⟩
     go_wp2_with fail
     refine (H19.out _ (HR.out.up HB1.out HB1.out.size)).mono ?_
     rintro e w2 ⟨rfl,hB2⟩
     have HB2:=hid (HB1.out.trans (hB2.mono HB1.out.size))
     clear hB2
     go_wp2_with fail
     go_ret
     exact ⟨rfl,HB2.out⟩
 · rw[hg] at HG
   clear hr ho hg
   go_enter Tryz.func4,Tryz.ntmps4
   go_wp2_with fail
   refine (zmv w).mono ?_
   rintro e w1 ⟨rfl,hB1⟩
   have HB1:=hid hB1
   clear hB1
   go_wp2_with fail
   refine (HG.out _).mono ?_
   rintro e w1' ⟨rfl,rfl⟩
   go_wp2_with fail
   go_ret
   exact ⟨rfl,HB1.out⟩
theorem zjq (w:World) (A:Option Addr) (ws:List Nat) (c:Nat) (hn:ws.length≤maxLen) (hc:ws.length≤c) (hr:RdW w w.heap.size A ws) (ho:∀ x ∈ ws,x<18446744073709551616) :
 Calls Tryz.prog 4 #[.slice A ws.length c] w fun e w'=>e=.returned (.bool true)∧Below w.heap.size w w':=zjd A ws c ws.length w rfl (by unfold maxLen at hn;omega) hc hr ho
end Go.Proofs.YtpcajamacpbjcaaGreat
