/- Texts laid together: FrmF Wnt DelP Del DelW Wtd WtdW. -/
import Derived.Test.YtpcajamacpbjcaaGreatZKHeap
import Derived.Test.YtpcajamacpbjcaaGreatZKRch
import Derived.Lib.SliceRun
import Derived.Test.YtpcajamacpbjcaaGreatZKMove
namespace Go.Proofs.YtpcajamacpbjcaaGreat
open Lib (hid)
open Go.RowKit
def zux (H:Nat) (ws:List Nat) (a:Int) (e:Ending) (w':World):Prop:=∃ A c,e=.returned (.tuple #[.slice A (za5 ws a).length c,.int .i64 (zca ws a)])∧w'.ownsRow H 55 6 (.slice A (za5 ws a).length c) (za5 ws a).length ((za5 ws a).flatMap Bk.cells)
theorem zhz {H:Nat} {ws:List Nat} {a r:Int} {w':World} (hr:zca ws a=r) (h0:r≠0):zux H ws a (.returned (.tuple #[.slice none 0 0,.int .i64 r])) w':=by
 subst hr
 have:za5 ws a=[]:=by simp[za5,h0]
 exact ⟨none,0,by rw[this];rfl,by rw[this];exact World.ownsRow_nil _ _ _ _⟩
theorem zy2 {H:Nat} {ws:List Nat} {a:Int} {v:Value} {w':World} {l:List Bk} (h0:zca ws a=0) (hl:za5 ws a=l) (h:w'.ownsRow H 55 6 v l.length (l.flatMap Bk.cells)):zux H ws a (.returned (.tuple #[v,.int .i64 0])) w':=by
 obtain ⟨A,c,rfl⟩:=zbb h
 exact ⟨A,c,by rw[hl,h0],by rw[hl];exact h⟩
def zCb (H:Nat) (ws:List Nat) (e:Ending) (w':World):Prop:=∃ A c,e=.returned (.tuple #[.slice A (zab ws).length c,.int .i64 (zae ws)])∧w'.ownsRow H 55 6 (.slice A (zab ws).length c) (zab ws).length ((zab ws).flatMap Bk.cells)
theorem zjx {H:Nat} {ws:List Nat} {r:Int} {w':World} (hr:zae ws=r) (h0:r≠0):zCb H ws (.returned (.tuple #[.slice none 0 0,.int .i64 r])) w':=by
 subst hr
 have:zab ws=[]:=by simp[zab,h0]
 exact ⟨none,0,by rw[this];rfl,by rw[this];exact World.ownsRow_nil _ _ _ _⟩
set_option maxRecDepth 100000 in
set_option maxHeartbeats 1600000 in
theorem zzy (A:Option Addr) (ws:List Nat) (c n:Nat) (a:Int) (w:World) (hn:ws.length=n) (hm:n≤9223372036854775807) (hr:RdW w w.heap.size A ws) (ho:∀ x ∈ ws,x<18446744073709551616) :
   Calls Tryz.prog 65 #[.slice A n c,.int .i64 a] w fun e w'=>zux w.heap.size ws a e w'∧Below w.heap.size w w':=by
 subst hn
 have HR:=hid hr
 have HO:=hid ho
 clear hr ho
 cases hs:zah (ws.length:Int)
 · have HI:=hid (zbw hs)
   have HE:=hid (zff (a:=a) hs)
   clear hs
   go_enter Tryz.func65,Tryz.ntmps65
   go_wp2_with fail
   refine (zay A ws.length c w hm).mono ?_
   rintro e w1 ⟨rfl,rfl⟩
   rw[HI.out]
   go_wp2_with fail
   go_ret2
   exact ⟨zhz HE.out (by omega),Below.refl _ _⟩
 · have HI:=hid (zbc hs)
   have HS:=hid hs
   have hb:=zi5 (zbc hs)
   obtain ⟨hb1,hb2,hb3⟩:=hb
   have HB3:=hid hb3
   clear hs hm hb3
   by_cases hbad:128≤a∧a≤(ws.length:Int)∧a % 2=0
   · obtain ⟨a1,a2,a3⟩:=hbad
     have HAR:Hid (ze0 ws.length a=false):=hid (by
       simp only[ze0,Bool.or_eq_false_iff,decide_eq_false_iff_not,bne_eq_false_iff_eq];omega)
     have hev:(a % 2 != 0)=false:=by rw[bne_eq_false_iff_eq];exact a3
     have d1:decide (a<128)=false:=by rw[decide_eq_false_iff_not];omega
     have d2:decide ((ws.length:Int)<a)=false:=by rw[decide_eq_false_iff_not];omega
     have HA3:=hid a3
     obtain ⟨i0,rfl⟩:=Int.eq_ofNat_of_zero_le (show 0≤a by omega)
     have d2n:decide (ws.length<i0)=false:=by rw[decide_eq_false_iff_not];omega
     clear a3
     obtain ⟨i2,hi,hz0,hz1,hz2⟩:=info_parts zjr
     have HJ:=hid hi
     have HJ0:=hid hz0
     have HJ1:=hid hz1
     have HJ2:=hid hz2
     clear hi hz0 hz1 hz2
     go_enter Tryz.func65,Tryz.ntmps65
     go_wp2_with fail
     refine (zay A ws.length c w (by omega)).mono ?_
     rintro e w1 ⟨rfl,rfl⟩
     rw[HI.out]
     go_wp2_with fail
     go_loopw [1,7] (fun p v wr=>∃ (i:Nat) (acc:List Bk),p=.int .i64 i∧i0≤i∧i≤ws.length∧i % 2=0∧blocks ws i0=(blocks ws i).map (acc ++ ·)∧acc.length≤i∧wr.ownsRow w.heap.size 55 6 v acc.length (acc.flatMap Bk.cells)∧Below w.heap.size w wr) (fun p _ _=>ws.length - (intOf p).toNat)
     case atStart=>exact ⟨i0,[],rfl,Nat.le_refl _,by omega,by have:=HA3.out;omega,by simp,by simp,World.ownsRow_nil _ _ _ _,Below.refl _ _⟩
     case round =>
       obtain ⟨i,acc,rfl,q1,q2,q3,q4,q5,hown,hB⟩:=hrel
       have hz:=hB.size
       have HQ3:=hid q3
       have HQ4:=hid q4
       clear q4
       by_cases hlt:i<ws.length
       · have hlt1:i+1<ws.length:=by have:=HB3.out;omega
         clear q3
         have ik1:(i:Int)<(ws.length:Int):=by omega
         cases hst:stands ws i
         · have HN:=hid (zeh HS.out HAR.out (by rw[Int.toNat_natCast,HQ4.out,zc0 hlt hst];rfl))
           obtain ⟨g1,g2⟩:=zAx hst
           have HC:=hid (zma A ws c ws.length i wr rfl (by omega) hlt1 (HR.out.up hB hz) HO.out)
           rw[g1,g2] at HC
           unfold zlv Bk.val at HC
           dsimp only at HC
           clear hst g1 g2 hown
           go_wp2_with fail
           refine HC.out.mono ?_
           rintro e w1 ⟨rfl,hB1⟩
           have hb1:=hB.trans (hB1.mono hz)
           go_wp2_with fail
           go_ret2
           exact ⟨zhz HN.out (by omega),hb1.alloc hb1.size _⟩
         · have hsz:=zav hst
           obtain ⟨g1,g2⟩:=zy3 hst
           have HC:=hid (zma A ws c ws.length i wr rfl (by omega) hlt1 (HR.out.up hB hz) HO.out)
           rw[g1,g2] at HC
           have HNX:=hid (show blocks ws i0=(blocks ws (i+szAt ws i)).map ((acc++[bkAt ws i]) ++ ·) by
            rw[HQ4.out,zaz hlt hst]
            cases blocks ws (i+szAt ws i) <;> simp)
           have HFL:=hid (zb6 Bk.cells acc (bkAt ws i))
           have hss:=zba ws i
           obtain ⟨x,hx⟩:∃ x,bkAt ws i=x:=⟨_,rfl⟩
           obtain ⟨z,hzz⟩:∃ z,szAt ws i=z:=⟨_,rfl⟩
           rw[hx] at HC HNX HFL hss
           rw[hzz] at HNX hsz hss
           have HX:=hid hx
           obtain ⟨xa,xs,xk,xt,xm,xn⟩:=x
           dsimp only at hss
           subst hss
           unfold Bk.val at HC
           dsimp only at HC
           obtain ⟨z1,z2,z3⟩:=hsz
           have HZ2:=hid z2
           clear hst g1 g2 hx hzz z2
           go_wp2_with fail
           refine HC.out.mono ?_
           rintro e w1 ⟨rfl,hB1⟩
           have hb1:=hB.trans (hB1.mono hz)
           have hownw:=zak hown hB1 (Nat.le_refl _)
           have hz1:=hb1.size
           go_wp2_with (at_builtin;refine wpList_append_own _ rfl _ _ 48 rfl w.heap.size 55 i2 _ 6 48 Tryz.underlying48 HJ.out HJ0.out HJ1.out HJ2.out rfl (by decide) _ _ _ rfl ((hownw.alloc _).alloc _) ⟨_,0,none⟩ 1 1 [.int .i64 xa,.int .i64 (z:Int),.int .i64 xk,.int .i64 xt,.bool xm,.int .u64 (xn:Int)] rfl rfl (zk4 _ _ _ (World.size_alloc _ _)) (by simp[Value.oneCell']) (by unfold maxLen;omega) (by omega) (by simp;omega) ?_;intro v1 w2 hown1 hg1 _;have hbx:Bx w2 w1.heap.size 55 #[.int .i64 xa,.int .i64 (z:Int),.int .i64 xk,.int .i64 xt,.bool xm,.int .u64 (xn:Int)]:=((Bx.new w1 55 _).alloc _).grown hg1 (zqr hownw);have hB2:=zaw (hb1.alloc hz1 (.cells #[.int .i64 xa,.int .i64 (z:Int),.int .i64 xk,.int .i64 xt,.bool xm,.int .u64 (xn:Int)] 55)) (by simp;omega) (hownw.alloc _) hg1;have hc1:w2.cell? ⟨w1.heap.size,1,none⟩=some (.int .i64 (z:Int)):=hbx.cell 1;have hf1:=hbx.frozen 1;have hl1:=hbx.lt;clear hg1 hbx)
           go_roundw
           case rel=>exact ⟨i+z,acc++[⟨xa,(z:Int),xk,xt,xm,xn⟩],by rw[Int.natCast_add],by omega,by omega,by have:=HQ3.out;have:=HZ2.out;omega,HNX.out,by simp;omega,by rw[HFL.out,List.length_append];exact hown1,hB2⟩
           case measure=>simp[intOf];omega
       · have hi:i=ws.length:=by omega
         have HD:=hid (zci HS.out HAR.out (l:=acc) (by rw[Int.toNat_natCast,HQ4.out,zaq (by omega)];simp))
         clear hi q3
         go_wp2_with fail
         go_ret2
         exact ⟨zy2 HD.out.1 HD.out.2 hown,hB⟩
   · have HE:=hid (zhw HS.out (znm hbad))
     go_enter Tryz.func65,Tryz.ntmps65
     go_wp2_with fail
     refine (zay A ws.length c w (by omega)).mono ?_
     rintro e w1 ⟨rfl,rfl⟩
     rw[HI.out]
     by_cases h1:a<128
     · clear hbad
       go_wp2_with fail
       go_ret2
       exact ⟨zhz HE.out (by omega),Below.refl _ _⟩
     · by_cases h2:(ws.length:Int)<a
       · clear hbad
         go_wp2_with fail
         go_ret2
         exact ⟨zhz HE.out (by omega),Below.refl _ _⟩
       · have hev:(a % 2 != 0)=true:=by rw[bne_iff_ne];omega
         have d1:decide (a<128)=false:=by rw[decide_eq_false_iff_not];omega
         have d2:decide ((ws.length:Int)<a)=false:=by rw[decide_eq_false_iff_not];omega
         have a0:0≤a:=by omega
         clear hbad
         go_wp2_with fail
         go_ret2
         exact ⟨zhz HE.out (by omega),Below.refl _ _⟩
set_option maxRecDepth 100000 in
set_option maxHeartbeats 4000000 in
theorem zFt (A:Option Addr) (ws:List Nat) (c n:Nat) (w:World) (hn:ws.length=n) (hm:n≤9223372036854775807) (hr:RdW w w.heap.size A ws) (ho:∀ x ∈ ws,x<18446744073709551616) :
   Calls Tryz.prog 62 #[.slice A n c] w fun e w'=>zCb w.heap.size ws e w'∧Below w.heap.size w w':=by
 subst hn
 have HR:=hid hr
 have HO:=hid ho
 have HFR:=hid (zzy A ws c ws.length 128 w rfl hm hr ho)
 clear hr ho
 cases hs:zah (ws.length:Int)
 · have HI:=hid (zbw hs)
   have HE:=hid (zno hs)
   clear hs
   go_enter Tryz.func62,Tryz.ntmps62
   go_wp2_with fail
   refine (zay A ws.length c w hm).mono ?_
   rintro e w1 ⟨rfl,rfl⟩
   rw[HI.out]
   go_wp2_with fail
   go_ret2
   exact ⟨zjx HE.out (by omega),Below.refl _ _⟩
 · have HI:=hid (zbc hs)
   obtain ⟨hb1,hb2,hb3⟩:=zf5 ws hs
   have HS:=hid hs
   clear hs hb3
   go_enter Tryz.func62,Tryz.ntmps62
   go_wp2_with fail
   refine (zay A ws.length c w hm).mono ?_
   rintro e w1 ⟨rfl,rfl⟩
   rw[HI.out]
   go_wp2_with fail
   refine HFR.out.mono ?_
   rintro e w1 ⟨⟨A1,c1,rfl,hcl⟩,hB1⟩
   have hrd:RdB w1 w1.heap.size A1 (za5 ws 128):=Rd.of_own hcl
   have hz1:=hB1.size
   have hlen:=zgx ws 128
   have H128:Hid (zca ws 128=0→zah (ws.length:Int)=true∧blocks ws 128=some (za5 ws 128)):=hid zDv
   have HNO:Hid (∀ r,zca ws 128=r→r≠0→zae ws=r):=hid (fun _ h h0=>zuv h h0)
   obtain ⟨l,hl⟩:∃ l,za5 ws 128=l:=⟨_,rfl⟩
   rw[hl] at hrd hcl hlen H128 ⊢
   have HRD:=hid hrd
   have HCL:=hid hcl
   obtain ⟨r,hr⟩:∃ r,zca ws 128=r:=⟨_,rfl⟩
   have HER:=hid hr
   rw[hr] at H128 ⊢
   clear hr hrd hcl hl
   by_cases hr0:r=0
   · subst hr0
     have HBL:=hid (H128.out rfl).2
     clear H128 HNO
     go_wp2_with fail
     go_loopw [26] (fun i wr=>∃ k:Nat,k≤l.length∧i=.int .i64 k∧Hid ((l.take k).all (zds ws)=true)∧Below w1.heap.size w1 wr) (fun i _=>l.length - (intOf i).toNat)
     case atStart=>exact ⟨0,Nat.zero_le _,rfl,rfl,Below.refl _ _⟩
     case round =>
      obtain ⟨k,hk,rfl,HAL,hB⟩:=hrel
      have hz:=hB.size
      by_cases hlt:k<l.length
      · obtain ⟨b,off,rfl,hbw,q0,q1,q2,q3,q4,q5⟩:=RdB.at_ (HRD.out.below hB) hlt
        have HTY:=hid (fun h=>zgp HBL.out (by omega) hlt h)
        have HSN:=hid (fun h=>zv7 hlt HAL.out h)
        have HBD:=hid (fun h=>zrx HS.out HBL.out (zzq hlt h))
        obtain ⟨x,hx⟩:∃ x,l[k]=x:=⟨_,rfl⟩
        rw[hx] at q0 q1 q2 q3 q4 q5 HTY HSN HBD
        have HFO:=hid (fun h=>zh4 (ws:=ws) (b:=x) h)
        have HFN:=hid (fun h=>zd3 (ws:=ws) (b:=x) h)
        have hty:tyA x=96+2 * x.typ.toNat:=rfl
        rw[hty] at HFO
        obtain ⟨xa,xs,xk,xt,xm,xn⟩:=x
        dsimp only at q0 q1 q2 q3 q4 q5 HTY HFO
        have hlm:(k:Int)<(l.length:Int):=by omega
        clear hx hty
        have hnew:=Bx.new wr 55 #[.int .i64 xa,.int .i64 xs,.int .i64 xk,.int .i64 xt,.bool xm,.int .u64 (xn:Int)]
        by_cases hk1:xk=1
        · obtain ⟨t0,t8⟩:=HTY.out hk1
          obtain ⟨t,rfl⟩:=Int.eq_ofNat_of_zero_le t0
          have HF:=hid (HFO.out hk1)
          simp only[Int.toNat_natCast] at HF
          subst hk1
          have HC:=hid (fun W (h:RdW W W.heap.size A ws)=>zrk A ws c ws.length t W rfl (by omega) hb1 (by omega) h HO.out)
          have hz1w:=hz1
          have HRW:=hid ((((HR.out.up hB1 hz1).up hB hz).alloc (Nat.le_refl _) (.cells #[.int .i64 xa,.int .i64 xs,.int .i64 1,.int .i64 (t:Int),.bool xm,.int .u64 (xn:Int)] 55)).more (B':=(wr.alloc (.cells #[.int .i64 xa,.int .i64 xs,.int .i64 1,.int .i64 (t:Int),.bool xm,.int .u64 (xn:Int)] 55)).heap.size) (by simp))
          obtain ⟨fx,hfx⟩:∃ fx,wd ws (96+2 * t)=fx:=⟨_,rfl⟩
          obtain ⟨fy,hfy⟩:∃ fy,wd ws (96+2 * t+1)=fy:=⟨_,rfl⟩
          rw[hfx,hfy] at HC HF
          clear hnew hfx hfy HFO HFN HTY
          go_wp2_with fail
          refine (HC.out _ HRW.out).mono ?_
          rintro e w2 ⟨⟨A2,c2,rfl,hrd2,hcl2⟩,hB2⟩
          rw[World.size_alloc] at hB2
          have bx2:=Bx.of_new hB2
          have hb2:=hB.trans ((zan hB2).mono hz)
          obtain ⟨c0,c1',c2',c3,c4,c5,cf,cz⟩:=bx2.c6
          have HB2:=hid hb2
          clear hrd2 hcl2 bx2 hB2 hb2 cf
          obtain ⟨ok,hok⟩:∃ ok,zb7 fx fy=ok:=⟨_,rfl⟩
          obtain ⟨m,hm2⟩:∃ m,(zbd fx fy).length=m:=⟨_,rfl⟩
          have hm8:m≤255:=by
            rw[←hm2];unfold zbd;split
            · rw[zet];have:=Nat.mod_lt fx (show 0<256 by omega);omega
            · simp
          rw[hok,hm2] at HF ⊢
          clear hok hm2
          cases ok
          · have HB:=hid (HBD.out (by rw[HF.out];rfl))
            go_wp2_with fail
            go_ret2
            exact ⟨zjx HB.out (by omega),hB1.trans (HB2.out.mono hz1)⟩
          · rw[Bool.true_and] at HF
            have hsz:((za8 m:Nat):Int)=((m:Int)+3) / 2 * 2:=by unfold za8;omega
            rw[hsz] at HF
            by_cases hse:xs=((m:Int)+3) / 2 * 2
            · have hs1:(xs != ((m:Int)+3) / 2 * 2)=false:=by rw[bne_eq_false_iff_eq];exact hse
              have HY:=hid (HSN.out (by rw[HF.out,beq_iff_eq];exact hse))
              clear hse
              go_wp2_with fail
              go_roundw
              case rel=>exact ⟨k+1,by omega,by go_num,HY.out,HB2.out⟩
              case measure=>simp[intOf];omega
            · have hs1:(xs != ((m:Int)+3) / 2 * 2)=true:=by rw[bne_iff_ne];exact hse
              have HB:=hid (HBD.out (by rw[HF.out,beq_eq_false_iff_ne];exact hse))
              clear hse
              go_wp2_with fail
              go_ret2
              exact ⟨zjx HB.out (by omega),hB1.trans (HB2.out.mono hz1)⟩
        · have hk2:(xk != 1)=true:=by rw[bne_iff_ne];exact hk1
          have HY:=hid (HSN.out (HFN.out hk1))
          clear hk1 hnew
          go_wp2_with fail
          go_roundw
          case rel=>exact ⟨k+1,by omega,by go_num,HY.out,hB.alloc hz _⟩
          case measure=>simp[intOf];omega
      · have HP:=hid (ze7 HS.out HBL.out (by have:=HAL.out;rwa [List.take_of_length_le (by omega)] at this))
        go_wp2_with fail
        go_ret2
        exact ⟨⟨A1,c1,by rw[HP.out.1,HP.out.2];rfl,by rw[HP.out.2];exact zak HCL.out hB (Nat.le_refl _)⟩,hB1.trans (hB.mono hz1)⟩
   · have hn1:(r != 0)=true:=by rw[bne_iff_ne];exact hr0
     have HN:=hid (HNO.out r HER.out hr0)
     have HR0:=hid hr0
     clear hr0 H128 HNO
     go_wp2_with fail
     go_ret2
     exact ⟨zjx HN.out HR0.out,hB1⟩
end Go.Proofs.YtpcajamacpbjcaaGreat
namespace Go.Proofs.YtpcajamacpbjcaaGreat
open Lib (hid)
open Go.RowKit
def zee (S:List Bool) (b:Bk):Bool:=b.mark == (S[b.at_.toNat]?.getD false)
set_option maxRecDepth 100000 in
set_option maxHeartbeats 2000000 in
theorem zCp (gB g c n m:Nat) (S:List Bool) (xs xk xt:Int) (xm:Bool) (xn:Nat) (w:World) (hS:S.length=n) (hm:m<n) (hB:gB<w.heap.size) (hbox:w.cell? ⟨gB,0,none⟩=some (.slice (some ⟨g,0,none⟩) n c)) (h:Rd w w.heap.size (some ⟨g,0,none⟩) (S.flatMap zbr)) :
  Calls Tryz.prog 204 #[.agg #[.int .i64 (m:Int),.int .i64 xs,.int .i64 xk,.int .i64 xt,.bool xm,.int .u64 (xn:Int)],.pointer (some ⟨gB,0,none⟩)] w fun e w'=>e=.returned (.bool (xm == (S[m]?.getD false)))∧Below w.heap.size w w':=by
 have hmi:(m:Int)<(n:Int):=by omega
 have hm0:(0:Int)≤(m:Int):=by omega
 obtain ⟨b,off,eA,hb,hc⟩:=Rd.at_flat zfn h (by omega) (show m<S.length by omega)
 cases eA
 have c0:=hc 0 (by omega)
 have c0:w.cell? ⟨g,m,none⟩=some (.bool (S[m]'(by omega))):=by simpa [zbr] using c0
 rw[show S[m]?.getD false=S[m]'(by omega) by rw[List.getElem?_eq_getElem (by omega)];rfl]
 obtain ⟨y,hy⟩:∃ y,S[m]'(show m<S.length by omega)=y:=⟨_,rfl⟩
 rw[hy] at c0 ⊢
 have q0:=(World.cell?_alloc_lt w (.cells #[.int .i64 (m:Int),.int .i64 xs,.int .i64 xk,.int .i64 xt,.bool xm,.int .u64 (xn:Int)] 55) ⟨g,m,none⟩ hb).trans c0
 have q1:=(World.cell?_alloc_lt w (.cells #[.int .i64 (m:Int),.int .i64 xs,.int .i64 xk,.int .i64 xt,.bool xm,.int .u64 (xn:Int)] 55) ⟨gB,0,none⟩ hB).trans hbox
 clear hc h hy c0 hbox
 go_enter Tryz.func204,Tryz.ntmps204
 go_wp2_with fail
 go_quiet (fail)
 go_wp2_with fail
 go_ret
 exact ⟨rfl,zcr ((Below.refl _ _).alloc (Nat.le_refl _) _) _⟩
def zho (S:List Bool) (l:List Bk) (k:Nat):Prop:=∀ j,j<k→zee S (gk l j)=false
theorem zho.zero (S:List Bool) (l:List Bk):zho S l 0:=fun j h=>absurd h (by omega)
theorem zho.succ {S:List Bool} {l:List Bk} {k:Nat} (h:zho S l k) (h1:zee S (gk l k)=false):zho S l (k+1):=fun j hj=>by
 rcases Nat.lt_or_ge j k with h2|h2
 · exact h j h2
 · have:j=k:=by omega
   subst this;exact h1
def zKg (S:List Bool) (l:List Bk) (e:Ending):Prop:=(e=.returned (.int .i64 (-1))∧zho S l l.length)∨∃ k:Nat,k<l.length∧e=.returned (.int .i64 (k:Int))∧zho S l k∧zee S (gk l k)=true
set_option maxRecDepth 100000 in
set_option maxHeartbeats 4000000 in
theorem zxq (A:Option Addr) (l:List Bk) (S:List Bool) (gB g c n cl:Nat) (w:World) (hS:S.length=n) (hl:l.length≤2048) (hat:∀ k (hk:k<l.length),∃ m:Nat,l[k].at_=(m:Int)∧m<n) (hrl:RdB w w.heap.size A l)
  (hB:gB<w.heap.size) (hbox:w.cell? ⟨gB,0,none⟩=some (.slice (some ⟨g,0,none⟩) n c)) (h:Rd w w.heap.size (some ⟨g,0,none⟩) (S.flatMap zbr)) :
  Calls Tryz.prog 251 #[.slice A l.length cl,.func (.func 204) #[] #[.pointer (some ⟨gB,0,none⟩)]] w fun e w'=>zKg S l e∧Below w.heap.size w w':=by
 have HL:=hid hrl
 have HBX:=hid (And.intro hB hbox)
 have HS:=hid h
 have HAT:=hid hat
 have HC:=hid (fun m xs xk xt xm xn W hm h1 h2 h3=>zCp gB g c n m S xs xk xt xm xn W hS hm h1 h2 h3)
 clear hrl hB hbox h hat
 go_enter Tryz.func251,Tryz.ntmps251
 go_wp2_with fail
 go_loopw [8] (fun i wr=>∃ k:Nat,k≤l.length∧i=.int .i64 k∧Hid (zho S l k)∧Below w.heap.size w wr) (fun i _=>l.length - (intOf i).toNat)
 case atStart=>exact ⟨0,Nat.zero_le _,rfl,zho.zero S l,Below.refl _ _⟩
 case round =>
  obtain ⟨k,hk,rfl,HNK,hB⟩:=hrel
  have hz:=hB.size
  by_cases hlt:k<l.length
  · obtain ⟨b,off,rfl,hbw,q0,q1,q2,q3,q4,q5⟩:=RdB.at_ (Rd.below HL.out hB) hlt
    obtain ⟨m,hm1,hm2⟩:=HAT.out k hlt
    have HNS:=hid (fun h=>HNK.out.succ h)
    have HKK:=hid (show ∀ r,zee S (gk l k)=r→zKg S l (.returned (.int .i64 (k:Int)))∨r=false from fun r hr=>by
      cases r
      · exact .inr rfl
      · exact .inl (.inr ⟨k,hlt,rfl,HNK.out,hr⟩))
    rw[zbt l k hlt] at HNS HKK
    obtain ⟨x,hx⟩:∃ x,l[k]=x:=⟨_,rfl⟩
    rw[hx] at q0 q1 q2 q3 q4 q5 hm1 HNS HKK
    obtain ⟨xa,xs,xk,xt,xm,xn⟩:=x
    dsimp only at q0 q1 q2 q3 q4 q5 hm1
    subst hm1
    have hkb:zee S ⟨(m:Int),xs,xk,xt,xm,xn⟩=(xm == (S[m]?.getD false)):=by unfold zee;dsimp only;rw[Int.toNat_natCast]
    rw[hkb] at HNS HKK
    have hlm:(k:Int)<(l.length:Int):=by omega
    have hk0:(0:Int)≤(k:Int):=by omega
    have HQ:=hid (HC.out m xs xk xt xm xn wr hm2 (by have:=HBX.out.1;omega) ((hB.cell (p:=⟨gB,0,none⟩) HBX.out.1).trans HBX.out.2) (HS.out.up hB hz))
    obtain ⟨r,hr⟩:∃ r,(xm == (S[m]?.getD false))=r:=⟨_,rfl⟩
    rw[hr] at HQ HNS HKK
    clear hx hr hkb
    go_wp2_with fail
    refine HQ.out.mono ?_
    rintro e w2 ⟨rfl,hB2⟩
    have hb2:=hB.trans (hB2.mono hz)
    cases r
    · have HY:=hid (HNS.out rfl)
      go_wp2_with fail
      go_roundw
      case rel=>exact ⟨k+1,by omega,by go_num,HY.out,hb2⟩
      case measure=>simp[intOf];omega
    · have HY:=hid ((HKK.out true rfl).resolve_right (by decide))
      go_wp2_with fail
      go_ret
      exact ⟨HY.out,hb2⟩
  · obtain rfl:k=l.length:=by omega
    go_wp2_with fail
    go_ret
    exact ⟨.inl ⟨rfl,HNK.out⟩,hB⟩
end Go.Proofs.YtpcajamacpbjcaaGreat
namespace Go.Proofs.YtpcajamacpbjcaaGreat
open Lib (hid)
open Go.RowKit
def zLm (xs:List Value):Nat→List Value→List Value
 | _,[]=>xs
 | o,v :: vs=>zLm (xs.set o v) (o+1) vs
theorem ztd (pre:List Value):∀ (vs bs:List Value) (o:Nat),zLm (pre++bs) (pre.length+o) vs=pre++zLm bs o vs:=by
 intro vs
 induction vs with
 | nil=>intro bs o;rfl
 | cons v vs ih =>
  intro bs o
  simp only[zLm]
  rw[List.set_append_right _ _ (by omega),show pre.length+o - pre.length=o by omega,Nat.add_assoc,ih]
theorem zCc:∀ (l:List Bk) (k:Nat) (x:Bk),k<l.length→zLm (l.flatMap Bk.cells) (k * 6) x.cells=(l.set k x).flatMap Bk.cells:=by
 intro l
 induction l with
 | nil=>intro k x h;simp at h
 | cons b l ih =>
  intro k x h
  cases k with
  | zero=>rfl
  | succ k =>
   have h2:=ih k x (by simpa using h)
   rw[List.flatMap_cons,List.set_cons_succ,List.flatMap_cons,←h2,show (k+1) * 6=b.cells.length+k * 6 by show (k+1) * 6=6+k * 6;omega,ztd]
theorem zr7 {H n c g:Nat} {e:TypeId} {sz:Nat}:∀ (vs:List Value) (o:Nat) (w:World) (xs:List Value),w.ownsRow H e sz (.slice (some ⟨g,0,none⟩) n c) n xs→(w.setCells g o vs).ownsRow H e sz (.slice (some ⟨g,0,none⟩) n c) n (zLm xs o vs):=by
 intro vs
 induction vs with
 | nil=>intro o w xs h;exact h
 | cons v vs ih=>intro o w xs h;exact ih (o+1) _ _ (h.stored o v).1
theorem zia {w:World} {B b o g:Nat} {cs:List Value} (h:Rd w B (some ⟨b,o,none⟩) cs) (hne:b≠g) (o':Nat) (vs:List Value):Rd (w.setCells g o' vs) B (some ⟨b,o,none⟩) cs:=by
 intro h0
 obtain ⟨b',off,e,hb,hc⟩:=h h0
 cases e
 refine ⟨b,o,rfl,hb,fun j hj => ?_⟩
 rw[World.cell?_setCells_out g vs o' w _ (fun h9 _=>absurd h9 hne)]
 exact hc j hj
theorem znv {P:Program} (w:World) (t e ty:TypeId) (z:Value) (ht:P.underlying t=some (.slice e)) (hv:∀ w,(zeroValue e).run P w=.ok z w) (L:List Value) (b o n c:Nat) (hL:(Builtin.zeroCells z.cells n).toList=L) (hn:0<n) (h1:∀ v ∈ L,v.oneCell'=true)
  (hc:∀ j,j<L.length→(w.cell? ⟨b,o+j,none⟩).isSome=true) (hf:∀ j,j<L.length→w.frozen? ⟨b,o+j,none⟩=false) :
  (Builtin.clear_ #[t] ty #[.slice (some ⟨b,o,none⟩) n c]).run P w=.ok (.tuple #[]) (w.setCells b o L):=by
 have hst:=Go.run_storeCells_cells (P:=P) b o L 0 w (by simpa using hc) (by simpa using hf) h1
 simp only[Nat.add_zero] at hst
 obtain ⟨m,rfl⟩:∃ m,n=m+1:=⟨n - 1,by omega⟩
 simp[Builtin.clear_,run_underlying ht,hv,hL,hst]
end Go.Proofs.YtpcajamacpbjcaaGreat
namespace Go.Proofs.YtpcajamacpbjcaaGreat
open Lib (hid)
open Go.RowKit
def zk5 (S:List Bool) (l:List Bk):List Bk:=l.filter fun b => !zee S b
theorem zsp {S:List Bool} {l:List Bk} (h:zho S l l.length):zk5 S l=l:=by
 unfold zk5
 rw[List.filter_eq_self]
 intro b hb
 obtain ⟨k,hk,rfl⟩:=List.getElem_of_mem hb
 have:=h k hk
 rw[zbt l k hk] at this
 simp[this]
theorem zBn {S:List Bool} {l:List Bk} {k:Nat} (h:zho S l k) (hk:k≤l.length):zk5 S (l.take k)=l.take k:=by
 refine zsp fun j hj => ?_
 rw[List.length_take] at hj
 have:=h j (by omega)
 rw[zbt _ _ (by omega)] at this
 rw[zbt _ _ (by rw[List.length_take];omega),List.getElem_take]
 exact this
theorem znb {S:List Bool} {l:List Bk} {k:Nat} (hk:k<l.length):zk5 S (l.take (k+1))=zk5 S (l.take k)++(if zee S l[k]=true then [] else [l[k]]):=by
 unfold zk5
 rw[List.take_succ_eq_append_getElem hk,List.filter_append]
 congr 1
 cases hb:zee S l[k] <;> simp[hb]
def zi6 (S:List Bool) (l R:List Bk) (k j:Nat):Prop:=k<j∧j≤l.length∧R.length=l.length∧R.take k=zk5 S (l.take j)∧R.drop j=l.drop j
theorem zi6.get {S:List Bool} {l R:List Bk} {k j:Nat} (h:zi6 S l R k j) (hj:j<l.length):∃ h2:j<R.length,R[j]=l[j]:=by
 obtain ⟨h1,h2,h3,h4,h5⟩:=h
 refine ⟨by omega,?_⟩
 have e1:(R.drop j)[0]? = R[j]?:=by simp
 have e2:(l.drop j)[0]? = l[j]?:=by simp
 rw[h5,e2,List.getElem?_eq_getElem hj,List.getElem?_eq_getElem (by omega)] at e1
 injection e1 with e1
 exact e1.symm
theorem zi6.drop1 {S:List Bool} {l R:List Bk} {k j:Nat} (h:zi6 S l R k j) (_hj:j<l.length):R.drop (j+1)=l.drop (j+1):=by
 have:=congrArg (List.drop 1) h.2.2.2.2
 rwa [List.drop_drop,List.drop_drop] at this
theorem zi6.first {S:List Bool} {l:List Bk} {k:Nat} (hk:k<l.length) (h:zho S l k) (h1:zee S (gk l k)=true):zi6 S l l k (k+1):=by
 refine ⟨by omega,by omega,rfl,?_,rfl⟩
 rw[zbt l k hk] at h1
 rw[znb hk,zBn h (by omega),if_pos h1,List.append_nil]
theorem zi6.del {S:List Bool} {l R:List Bk} {k j:Nat} (h:zi6 S l R k j) (hj:j<l.length) (h1:zee S l[j]=true):zi6 S l R k (j+1):=by
 refine ⟨by have:=h.1;omega,by omega,h.2.2.1,?_,h.drop1 hj⟩
 rw[znb hj,if_pos h1,List.append_nil]
 exact h.2.2.2.1
theorem zi6.keep {S:List Bool} {l R:List Bk} {k j:Nat} (h:zi6 S l R k j) (hj:j<l.length) (h1:zee S l[j]=false):zi6 S l (R.set k l[j]) (k+1) (j+1):=by
 obtain ⟨g1,g2,g3,g4,g5⟩:=h
 refine ⟨by omega,by omega,by rw[List.length_set];exact g3,?_,?_⟩
 · rw[znb hj,if_neg (by rw[h1];simp),←g4,List.take_succ_eq_append_getElem (by rw[List.length_set];omega),List.getElem_set_self,List.take_set_of_le (Nat.le_refl _)]
 · rw[List.drop_set_of_lt (by omega)]
   exact zi6.drop1 (S:=S) ⟨g1,g2,g3,g4,g5⟩ hj
end Go.Proofs.YtpcajamacpbjcaaGreat
namespace Go.Proofs.YtpcajamacpbjcaaGreat
open Lib (hid)
open Go.RowKit
theorem zpu {z:Array Value} {n:Nat} {v:Value} (h:v ∈ (Builtin.zeroCells z n).toList) (h0:0<z.size):v ∈ z.toList:=by
 simp only[Builtin.zeroCells,Array.toList_map,List.mem_map] at h
 obtain ⟨i,-,rfl⟩:=h
 have hlt:i % z.size<z.size:=Nat.mod_lt _ h0
 rw[getElem!_pos z _ hlt]
 exact Array.getElem_mem_toList hlt
theorem zpr (z:Array Value) (n:Nat):(Builtin.zeroCells z n).toList.length=n * z.size:=by simp[Builtin.zeroCells]
theorem zsl {w:World} {H n c g:Nat} {e:TypeId} {sz:Nat} {xs:List Value} (h:w.ownsRow H e sz (.slice (some ⟨g,0,none⟩) n c) n xs) (o k:Nat) (hk:o+k≤n * sz):w.there g o k:=fun j hj =>
 ⟨by rw[h.cellAt (o+j) (by omega),List.getElem?_eq_getElem (by have:=h.1;omega)];rfl,h.frozenAt (o+j)⟩
theorem zC1 (w:World):(zeroValue 55).run Tryz.prog w=.ok (.agg #[.int .i64 0,.int .i64 0,.int .i64 0,.int .i64 0,.bool false,.int .u64 0]) w:=by kernel_rfl
theorem zK8:(Tryz.prog.info? 55).map (·.size)=some 6:=by kernel_rfl
set_option maxRecDepth 100000 in
set_option maxHeartbeats 8000000 in
theorem zs3 (A:Option Addr) (l:List Bk) (S:List Bool) (gB g c n cl H:Nat) (w:World) (hS:S.length=n) (hl:l.length≤2048) (hat:∀ k (hk:k<l.length),∃ m:Nat,l[k].at_=(m:Int)∧m<n)
   (hown:w.ownsRow H 55 6 (.slice A l.length cl) l.length (l.flatMap Bk.cells)) (hH:H≤w.heap.size) (hB:gB<w.heap.size) (hbox:w.cell? ⟨gB,0,none⟩=some (.slice (some ⟨g,0,none⟩) n c)) (h:Rd w w.heap.size (some ⟨g,0,none⟩) (S.flatMap zbr))
   (hg1:(Value.slice A l.length cl).ownBlock≠some gB) (hg2:(Value.slice A l.length cl).ownBlock≠some g) :
   Calls Tryz.prog 203 #[.slice A l.length cl,.func (.func 204) #[] #[.pointer (some ⟨gB,0,none⟩)]] w fun e w'=>∃ A' c',e=.returned (.slice A' (zk5 S l).length c')∧RdB w' w'.heap.size A' (zk5 S l)∧w'.cell? ⟨gB,0,none⟩=some (.slice (some ⟨g,0,none⟩) n c)∧Rd w' w'.heap.size (some ⟨g,0,none⟩) (S.flatMap zbr)∧gB<w'.heap.size∧Below H w w':=by
 have HIX:=hid (zxq A l S gB g c n cl w hS hl hat (Rd.of_own hown) hB hbox h)
 unfold zKg at HIX
 have HOW:=hid hown
 have HBX:=hid (And.intro hB hbox)
 have HS:=hid h
 have HAT:=hid hat
 have HG:=hid (And.intro hg1 hg2)
 have HC:=hid (fun m xs xk xt xm xn W hm h1 h2 h3=>zCp gB g c n m S xs xk xt xm xn W hS hm h1 h2 h3)
 clear hown hB hbox h hat hg1 hg2
 go_enter Tryz.func203,Tryz.ntmps203
 go_wp2_with fail
 refine HIX.out.mono ?_
 rintro e w1 ⟨⟨rfl,hnk⟩|⟨k,hk,rfl,hnk,hkb⟩,hB1⟩
 · have HR:=hid ((Rd.of_own HOW.out).up hB1 hB1.size)
   have HBX1:=hid ((hB1.cell (p:=⟨gB,0,none⟩) HBX.out.1).trans HBX.out.2)
   have HS1:=hid (HS.out.up hB1 hB1.size)
   have HE:=hid (zsp hnk)
   have hz:=hB1.size
   have hb1:=hB1.mono hH
   clear hnk
   go_wp2_with fail
   go_ret
   rw[HE.out]
   exact ⟨A,cl,rfl,HR.out,HBX1.out,HS1.out,by have:=HBX.out.1;omega,hb1⟩
 · have HD:=hid (zi6.first hk hnk hkb)
   obtain ⟨gL,cL,eL⟩:=zl8 HOW.out (by omega)
   cases eL
   have hgL:=zpw HOW.out
   have hne1:gL≠gB:=fun h=>HG.out.1 (by rw[h];rfl)
   have hne2:gL≠g:=fun h=>HG.out.2 (by rw[h];rfl)
   have HO1:=hid (zak HOW.out hB1 (Nat.le_refl _))
   have HBX1:=hid ((hB1.cell (p:=⟨gB,0,none⟩) HBX.out.1).trans HBX.out.2)
   have HS1:=hid (HS.out.up hB1 hB1.size)
   have HB1:=hid (hB1.mono hH)
   have hz1:=hB1.size
   have hwk:IntKind.i64.wrap ((k:Int)+1)=(k:Int)+1:=IntWalk.i64_in _ (by omega)
   have hkm:((k:Int) == -1)=false:=by rw[beq_eq_false_iff_ne];omega
   clear hnk hkb hB1
   go_wp2_with fail
   go_loopw [5,6] (fun iv jv wr=>∃ (i j:Nat) (R:List Bk),iv=.int .i64 i∧jv=.int .i64 j∧Hid (zi6 S l R i j)∧wr.ownsRow H 55 6 (.slice (some ⟨gL,0,none⟩) l.length cl) l.length (R.flatMap Bk.cells)∧wr.cell? ⟨gB,0,none⟩=some (.slice (some ⟨g,0,none⟩) n c)∧Rd wr wr.heap.size (some ⟨g,0,none⟩) (S.flatMap zbr)∧w.heap.size≤wr.heap.size∧Below H w wr) (fun _ jv _=>l.length - (intOf jv).toNat)
   case atStart=>exact ⟨k,k+1,l,rfl,by go_num,HD.out,HO1.out,HBX1.out,HS1.out,hz1,HB1.out⟩
   case round =>
    obtain ⟨i,j,R,rfl,rfl,HDR,hown,hbx,hrs,hz,hB⟩:=hrel
    have hst:=HDR.out
    by_cases hlt:j<l.length
    · obtain ⟨hjR,eR⟩:=hst.get hlt
      obtain ⟨s1,s2,s3,-,-⟩:=hst
      obtain ⟨b,off,eA,hbw,q0,q1,q2,q3,q4,q5⟩:=RdB.at_ (show RdB wr wr.heap.size _ _ from Rd.of_own hown) hjR
      cases eA
      simp only[Nat.zero_add] at q0 q1 q2 q3 q4 q5
      rw[eR] at q0 q1 q2 q3 q4 q5
      obtain ⟨m,hm1,hm2⟩:=HAT.out j hlt
      have HK:=hid (fun h=>HDR.out.keep hlt h)
      have HDL:=hid (fun h=>HDR.out.del hlt h)
      obtain ⟨x,hx⟩:∃ x,l[j]=x:=⟨_,rfl⟩
      rw[hx] at q0 q1 q2 q3 q4 q5 hm1 HK HDL
      obtain ⟨xa,xs,xk,xt,xm,xn⟩:=x
      dsimp only at q0 q1 q2 q3 q4 q5 hm1
      subst hm1
      have hkb:zee S ⟨(m:Int),xs,xk,xt,xm,xn⟩=(xm == (S[m]?.getD false)):=by unfold zee;dsimp only;rw[Int.toNat_natCast]
      rw[hkb] at HK HDL
      have hlm:(j:Int)<(l.length:Int):=by omega
      have hj0:(0:Int)≤(j:Int):=by omega
      have hi0:(0:Int)≤(i:Int):=by omega
      have hil:(i:Int)<(l.length:Int):=by omega
      have hgB:=HBX.out.1
      have HBN:=hid (hB.alloc (Nat.le_trans hH hz) (.cells #[.int .i64 (m:Int),.int .i64 xs,.int .i64 xk,.int .i64 xt,.bool xm,.int .u64 (xn:Int)] 55))
      have BN:=hid (Bx.new wr 55 #[.int .i64 (m:Int),.int .i64 xs,.int .i64 xk,.int .i64 xt,.bool xm,.int .u64 (xn:Int)])
      have HON:=hid (hown.alloc (.cells #[.int .i64 (m:Int),.int .i64 xs,.int .i64 xk,.int .i64 xt,.bool xm,.int .u64 (xn:Int)] 55))
      have HXN:=hid ((World.cell?_alloc_lt wr (.cells #[.int .i64 (m:Int),.int .i64 xs,.int .i64 xk,.int .i64 xt,.bool xm,.int .u64 (xn:Int)] 55) ⟨gB,0,none⟩ (by show gB<wr.heap.size;omega)).trans hbx)
      have HSN:=hid (Rd.more (Rd.alloc hrs (Nat.le_refl _) (.cells #[.int .i64 (m:Int),.int .i64 xs,.int .i64 xk,.int .i64 xt,.bool xm,.int .u64 (xn:Int)] 55)) (show wr.heap.size≤(wr.alloc (.cells #[.int .i64 (m:Int),.int .i64 xs,.int .i64 xk,.int .i64 xt,.bool xm,.int .u64 (xn:Int)] 55)).heap.size by simp))
      have hgLw:=(hown.lt gL rfl).2
      clear hx hkb hbx hrs hown
      go_upto_region 8 with (fail)
      obtain ⟨wn,hwn⟩:∃ wn,wr.alloc (.cells #[.int .i64 (m:Int),.int .i64 xs,.int .i64 xk,.int .i64 xt,.bool xm,.int .u64 (xn:Int)] 55)=wn:=⟨_,rfl⟩
      rw[hwn] at HBN BN HON HXN HSN ⊢
      have hszn:wn.heap.size=wr.heap.size+1:=by rw[←hwn];simp
      clear hwn q0 q1 q2 q3 q4 q5
      have HQ:=hid (HC.out m xs xk xt xm xn wn hm2 (by omega) HXN.out HSN.out)
      obtain ⟨r,hr⟩:∃ r,(xm == (S[m]?.getD false))=r:=⟨_,rfl⟩
      rw[hr] at HQ HK HDL
      clear hr
      obtain ⟨p0,p1,p2,p3,p4,p5,pf,hgn⟩:=BN.out.c6
      go_wp2_with fail
      refine HQ.out.mono ?_
      rintro e w2 ⟨rfl,hB2⟩
      have HB2:=hid (HBN.out.trans (hB2.mono (Nat.le_trans hH (by omega))))
      have HO2:=hid (zak HON.out hB2 (Nat.le_refl _))
      have HX2:=hid ((hB2.cell (p:=⟨gB,0,none⟩) (by show gB<wn.heap.size;omega)).trans HXN.out)
      have HS2:=hid (HSN.out.up hB2 hB2.size)
      have bn2:=BN.out.up hB2 hgn
      have hz2:=hB2.size
      clear hB2 p0 p1 p2 p3 p4 p5 pf
      obtain ⟨p0,p1,p2,p3,p4,p5,pf,hgn2⟩:=bn2.c6
      cases r
      · have HY:=hid (HK.out rfl)
        have hth:w2.there gL (i * 6) (#[.int .i64 (m:Int),.int .i64 xs,.int .i64 xk,.int .i64 xt,.bool xm,.int .u64 (xn:Int)]:Array Value).size:=zsl HO2.out (i * 6) 6 (by omega)
        have hi6:(Tryz.prog.info? 55).map (·.size)=some (#[.int .i64 (m:Int),.int .i64 xs,.int .i64 xk,.int .i64 xt,.bool xm,.int .u64 (xn:Int)]:Array Value).size:=zK8
        have h1c:(#[.int .i64 (m:Int),.int .i64 xs,.int .i64 xk,.int .i64 xt,.bool xm,.int .u64 (xn:Int)]:Array Value).all (·.oneCell')=true:=by simp[Value.oneCell']
        have HO3:=hid (zr7 (Bk.cells ⟨(m:Int),xs,xk,xt,xm,xn⟩) (i * 6) w2 _ HO2.out)
        rw[zCc R i ⟨(m:Int),xs,xk,xt,xm,xn⟩ (by omega)] at HO3
        have HX3:=hid ((World.cell?_setCells_out gL (Bk.cells ⟨(m:Int),xs,xk,xt,xm,xn⟩) (i * 6) w2 ⟨gB,0,none⟩ (fun h9 _=>absurd h9.symm hne1)).trans HX2.out)
        have HS3:=hid (zia HS2.out (fun h9=>hne2 h9.symm) (i * 6) (Bk.cells ⟨(m:Int),xs,xk,xt,xm,xn⟩))
        have HB3:=hid (zdd hgL (Bk.cells ⟨(m:Int),xs,xk,xt,xm,xn⟩) (o:=i * 6) HB2.out)
        have hsz3:=zg3 (g:=gL) (Bk.cells ⟨(m:Int),xs,xk,xt,xm,xn⟩) w2 (i * 6)
        obtain ⟨cs,hcs⟩:∃ cs:Array Value,#[.int .i64 (m:Int),.int .i64 xs,.int .i64 xk,.int .i64 xt,.bool xm,.int .u64 (xn:Int)]=cs:=⟨_,rfl⟩
        obtain ⟨w3,hw3⟩:∃ w3,w2.setCells gL (i * 6) (Bk.cells ⟨(m:Int),xs,xk,xt,xm,xn⟩)=w3:=⟨_,rfl⟩
        have hw4:w2.setCells gL (i * 6) cs.toList=w3:=by rw[←hcs];exact hw3
        rw[hw3] at HO3 HX3 HS3 HB3 hsz3
        rw[hcs] at hth hi6 h1c
        clear hw3
        go_wp2_with (refine wpList_store_mid rfl _ _ _ rfl gL (i * 6) cs (by rfl) (by rw[←hcs];rfl) hth hi6 h1c ?_;rw[hw4])
        go_roundw
        case rel=>exact ⟨i+1,j+1,R.set i ⟨(m:Int),xs,xk,xt,xm,xn⟩,by go_num,by go_num,HY.out,HO3.out,HX3.out,Rd.more HS3.out (by rw[hsz3];exact Nat.le_refl _),by rw[hsz3];omega,HB3.out⟩
        case measure=>simp[intOf];omega
      · have HY:=hid (HDL.out rfl)
        go_wp2_with fail
        go_roundw
        case rel=>exact ⟨i,j+1,R,rfl,by go_num,HY.out,HO2.out,HX2.out,HS2.out,by omega,HB2.out⟩
        case measure=>simp[intOf];omega
    · obtain ⟨s1,s2,s3,s4,-⟩:=hst
      obtain ⟨A9,c9,e9,hle,hrd⟩:=zir hown
      cases e9
      have HRD:=hid hrd
      have hicl:(i:Int)≤(cl:Int):=by omega
      have hill:(i:Int)≤(l.length:Int):=by omega
      have hi0:(0:Int)≤(i:Int):=by omega
      have hne:i≠cl:=by omega
      have hnec:¬ ((i:Int)=(cl:Int)):=by omega
      have hjl:j=l.length:=by omega
      have HWL:=hid (show zk5 S l=R.take i by rw[s4,hjl,List.take_length])
      have hxl:=hown.1
      obtain ⟨L,hL⟩:∃ L,(Builtin.zeroCells (Value.cells (.agg #[.int .i64 0,.int .i64 0,.int .i64 0,.int .i64 0,.bool false,.int .u64 0])) (l.length - i)).toList=L:=⟨_,rfl⟩
      have hLl:L.length=(l.length - i) * 6:=by rw[←hL,zpr];rfl
      have hth:=zsl hown (i * 6) L.length (by rw[hLl];omega)
      have hcl:=znv (P:=Tryz.prog) wr 48 55 0 _ Tryz.underlying48 zC1 L gL (i * 6) (l.length - i) (cl - i) hL (by omega)
        (fun v hv=>by
         rw[←hL] at hv
         have:=zpu hv (by decide)
         simp[Value.cells] at this
         rcases this with rfl|rfl|rfl <;> rfl)
        (fun q hq=>(hth q hq).1) (fun q hq=>(hth q hq).2)
      have HXE:=hid ((World.cell?_setCells_out gL L (i * 6) wr ⟨gB,0,none⟩ (fun h9 _=>absurd h9.symm hne1)).trans hbx)
      have HSE:=hid (zia hrs (fun h9=>hne2 h9.symm) (i * 6) L)
      have HBE:=hid (zdd hgL L (o:=i * 6) hB)
      have hszE:=zg3 (g:=gL) L wr (i * 6)
      have HRE:Hid (Rd (wr.setCells gL (i * 6) L) wr.heap.size (some ⟨gL,0,none⟩) ((R.take i).flatMap Bk.cells)):=hid fun _=>by
        refine ⟨gL,0,rfl,(hown.lt gL rfl).2,fun q hq => ?_⟩
        have hq6:q<i * 6:=by
         have:=hq
         rw[zng Bk.cells 6 Bk.len,List.length_take] at this
         omega
        rw[World.cell?_setCells_out gL L (i * 6) wr _ (fun _ _=>.inl (by show 0+q<i * 6;omega))]
        have e1:=hown.cellAt q (by omega)
        rw[Nat.zero_add,e1]
        have hq2:q<(R.flatMap Bk.cells).length:=by rw[hxl];omega
        rw[List.getElem?_eq_getElem hq2]
        congr 1
        simp only[zng Bk.cells 6 Bk.len,List.getElem_take]
      have hil:(R.take i).length=i:=by rw[List.length_take];omega
      clear hrd hL hLl hth hown hbx hrs hB
      go_wp2_with fail
      go_ret
      rw[HWL.out,hil]
      exact ⟨some ⟨gL,0,none⟩,cl,rfl,Rd.more HRE.out (by rw[hszE];exact Nat.le_refl _),HXE.out,Rd.more HSE.out (by rw[hszE];exact Nat.le_refl _),by rw[hszE];have:=HBX.out.1;omega,HBE.out⟩
end Go.Proofs.YtpcajamacpbjcaaGreat
namespace Go.Proofs.YtpcajamacpbjcaaGreat
open Lib (hid)
open Go.RowKit
def zz4 (ws:List Nat) (S:List Bool) (b:Bk):En:=⟨b.at_,zf1 (wd ws b.at_.toNat) (S[b.at_.toNat]?.getD false)⟩
noncomputable def za4 (ws:List Nat):List En:=if zap ws=0 then (zk5 (seenL ws) (zab ws)).map (zz4 ws (seenL ws)) else []
theorem zvs {ws:List Nat} {r:Int} (h1:zap ws=r) (h0:r≠0):za4 ws=[]:=by unfold za4;rw[if_neg (by rw[h1];exact h0)]
theorem zp8 (S:List Bool) (l:List Bk):(zk5 S l).length≤l.length:=List.length_filter_le _ _
theorem zvu {S:List Bool} {l:List Bk} {b:Bk} (h:b ∈ zk5 S l):b ∈ l:=(List.mem_filter.1 h).1
theorem zA4 (ws:List Nat) (S:List Bool) (l:List Bk) {k:Nat} (hk:k<l.length):(l.take (k+1)).map (zz4 ws S)=(l.take k).map (zz4 ws S)++[zz4 ws S l[k]]:=by
 rw[List.take_succ_eq_append_getElem hk,List.map_append]
 rfl
end Go.Proofs.YtpcajamacpbjcaaGreat
namespace Go.Proofs.YtpcajamacpbjcaaGreat
open Lib (hid)
open Go.RowKit
theorem hp_ats {ws:List Nat} (h:zae ws=0):∀ k (hk:k<(zab ws).length),∃ m:Nat,(zab ws)[k].at_=(m:Int)∧m<ws.length:=by
 intro k hk
 obtain ⟨hs,l,hl,ha,ho⟩:=zam h
 subst ho
 obtain ⟨a,e1,-,-,e4,-⟩:=zb5 _ _ hl (by omega) k hk
 exact ⟨a,by rw[e1];rfl,e4⟩
set_option maxRecDepth 100000 in
set_option maxHeartbeats 8000000 in
theorem zx2 (A:Option Addr) (ws:List Nat) (c n:Nat) (w:World) (hn:ws.length=n) (hm:n≤9223372036854775807) (hr:RdW w w.heap.size A ws) (ho:∀ x ∈ ws,x<18446744073709551616) :
   Calls Tryz.prog 141 #[.slice A n c] w fun e w'=>zhc w.heap.size (zap ws) (za4 ws) e w'∧Below w.heap.size w w':=by
 subst hn
 have HR:=hid hr
 have HC:=hid (zFt A ws c ws.length w rfl hm hr ho)
 unfold zCb at HC
 have HO:=hid ho
 clear hr ho
 by_cases h0:zae ws=0
 · obtain ⟨l,hl⟩:∃ l,zab ws=l:=⟨_,rfl⟩
   have HRC:=hid (fun L cl W (h:RdW W W.heap.size A ws) (h2:RdB W W.heap.size L l)=>zuu A L ws c cl ws.length l W rfl hm h0 hl h h2 HO.out)
   unfold zK2 at HRC
   have HAT:=hp_ats h0
   have hlb:=zib ws
   rw[h0,hl] at HC
   rw[hl] at HAT hlb
   have HAT:=hid HAT
   have hbd:=zf5 ws (zam h0).1
   have hlen:=hbd.2.1
   have hlen1:=hbd.1
   by_cases hz:zap ws=0
   · have HV:=hid (show zap ws=0∧za4 ws=(zk5 (seenL ws) l).map (zz4 ws (seenL ws)) from ⟨hz,by unfold za4;rw[if_pos hz,hl]⟩)
     have hsl:=zsr ws
     obtain ⟨i0,hi,hz0,hz1,hz2⟩:=info_parts zdn
     have HI:=hid hi
     have HZ0:=hid hz0
     have HZ1:=hid hz1
     have HZ2:=hid hz2
     clear hi hz0 hz1 hz2
     clear h0 hl hbd hz
     generalize seenL ws=S at HRC HV hsl
     have HDW:=hid (fun (A1:Option Addr) (cl gB g c2 H:Nat) (W:World) h1 h2 h3 h4 h5 h6 h7=>zs3 A1 l S gB g c2 ws.length cl H W hsl (by omega) HAT.out h1 h2 h3 h4 h5 h6 h7)
     have HSL:=hid hsl
     have HMK:=hid (fun a m W=>zob (wd ws a) m W (ze6 HO.out a))
     go_enter Tryz.func141,Tryz.ntmps141
     go_wp2_with fail
     refine HC.out.mono ?_
     rintro e w1 ⟨⟨A1,c1,rfl,hown1⟩,hB1⟩
     have HB1:=hid hB1
     have HR1:=hid (HR.out.up hB1 hB1.size)
     have HO1:=hid hown1
     clear hown1 hB1
     go_wp2_with fail
     refine (HRC.out A1 _ w1 HR1.out (show RdB _ _ _ _ from Rd.of_own HO1.out)).mono ?_
     rintro e wE ⟨⟨-,g,c2,rfl,hownS⟩|⟨h9,-⟩,hB2⟩
     · have HBE:=hid (HB1.out.trans (hB2.mono HB1.out.size))
       have HRE:=hid (HR1.out.up hB2 hB2.size)
       have HOE:=hid (zak HO1.out hB2 (Nat.le_refl _))
       have HS:=hid hownS
       have hgE:=hownS.lt g rfl
       have hsep:=zi8 HOE.out hownS (by decide)
       have hlt1:=HO1.out.lt
       have hz1:=HB1.out.size
       have hz2:=hB2.size
       have hzE:=HBE.out.size
       have h6:(Value.slice A1 l.length c1).ownBlock≠some wE.heap.size:=fun h=>by
        have:=(hlt1 _ h).2;omega
       have h7:(Value.slice A1 l.length c1).ownBlock≠some g:=fun h=>by
        rcases hsep with h8|h8
        · rw[h] at h8;cases h8
        · exact h8 h
       clear hownS hB2 hsep hlt1
       have HX:=hid (Bx.new wE 114 #[.slice (some ⟨g,0,none⟩) ws.length c2])
       have HOX:=hid (HOE.out.alloc (.cells #[.slice (some ⟨g,0,none⟩) ws.length c2] 114))
       have HSX:=hid ((Rd.of_own HS.out).alloc (Nat.le_refl _) (.cells #[.slice (some ⟨g,0,none⟩) ws.length c2] 114))
       have HRX:=hid (HRE.out.alloc (Nat.le_refl _) (.cells #[.slice (some ⟨g,0,none⟩) ws.length c2] 114))
       have HBX:=hid (HBE.out.alloc hzE (.cells #[.slice (some ⟨g,0,none⟩) ws.length c2] 114))
       go_wp2_with fail
       obtain ⟨wX,hwX⟩:∃ wX,wE.alloc (.cells #[.slice (some ⟨g,0,none⟩) ws.length c2] 114)=wX:=⟨_,rfl⟩
       have hszX:wX.heap.size=wE.heap.size+1:=by rw[←hwX];simp
       rw[hwX] at HX HOX HSX HRX HBX ⊢
       clear hwX
       have HSX2:=hid (Rd.more HSX.out (show wE.heap.size≤wX.heap.size by omega))
       refine (HDW.out A1 c1 wE.heap.size g c2 w.heap.size wX HOX.out HBX.out.size (by omega) HX.out.c1.1 HSX2.out h6 h7).mono ?_
       rintro e w3 ⟨A3,c3,rfl,hrd3,hbx3,hrs3,hgB3,hB3⟩
       have HB3:=hid (HBX.out.trans hB3)
       have HR3:=hid (HR.out.up HB3.out HB3.out.size)
       have HRD3:=hid hrd3
       have HBX3:=hid hbx3
       have HS3:=hid hrs3
       obtain ⟨gB,hgB⟩:∃ gB,wE.heap.size=gB:=⟨_,rfl⟩
       rw[hgB] at HBX3 hgB3
       have hwl:=zp8 S l
       have HWA:Hid (∀ k (hk:k<(zk5 S l).length),∃ m:Nat,(zk5 S l)[k].at_=(m:Int)∧m<ws.length):=hid (fun k hk=>by
        obtain ⟨j,hj,e⟩:=List.getElem_of_mem (zvu (List.getElem_mem hk))
        rw[←e];exact HAT.out j hj)
       have HWT:=hid (fun k (hk:k<(zk5 S l).length)=>zA4 ws S (zk5 S l) hk)
       obtain ⟨d,hd⟩:∃ d,zk5 S l=d:=⟨_,rfl⟩
       rw[hd] at HRD3 HWA HWT hwl HV
       simp only[hd,hgB]
       clear hd hrd3 hbx3 hrs3 hB3 HX HOX HSX HRX HBX HSX2 h6 h7 hszX hgB HRC HDW HC HOE HO1 HS HR1 HRE
       go_wp2_with fail
       go_loopw [7,34] (fun v i wr=>∃ k:Nat,k≤d.length∧i=.int .i64 k∧wr.ownsRow w3.heap.size 89 2 v (d.take k).length (((d.take k).map (zz4 ws S)).flatMap En.cells)∧Below w3.heap.size w3 wr) (fun _ i _=>d.length - (intOf i).toNat)
       case atStart=>exact ⟨0,Nat.zero_le _,rfl,World.ownsRow_nil _ _ _ _,Below.refl _ _⟩
       case round =>
        obtain ⟨k,hk,rfl,hown,hB⟩:=hrel
        have hz:=hB.size
        by_cases hlt:k<d.length
        · obtain ⟨b,off,rfl,hbw,q0,q1,q2,q3,q4,q5⟩:=RdB.at_ (Rd.below HRD3.out hB) hlt
          obtain ⟨m,hm1,hm2⟩:=HWA.out k hlt
          have HSN:=hid (HWT.out k hlt)
          obtain ⟨x,hx⟩:∃ x,d[k]=x:=⟨_,rfl⟩
          rw[hx] at q0 q1 q2 q3 q4 q5 hm1 HSN
          obtain ⟨xa,xs,xk,xt,xm,xn⟩:=x
          dsimp only at q0 q1 q2 q3 q4 q5 hm1
          subst hm1
          have hwe:zz4 ws S ⟨(m:Int),xs,xk,xt,xm,xn⟩=⟨(m:Int),zf1 (wd ws m) (S[m]?.getD false)⟩:=by unfold zz4;dsimp only;rw[Int.toNat_natCast]
          rw[hwe] at HSN
          obtain ⟨bW,oW,rfl,hbW,x0⟩:=RdW.at_ (Rd.below HR3.out hB) hm2
          rw[←zcb] at x0
          obtain ⟨bS,oS,eA,hbS,s0⟩:=Rd.at_flat zfn (Rd.below HS3.out hB) (by omega) (show m<S.length by rw[HSL.out];exact hm2)
          cases eA
          have s0:=s0 0 (by omega)
          have s0:wr.cell? ⟨g,m,none⟩=some (.bool (S[m]'(by rw[HSL.out];exact hm2))):=by simpa [zbr] using s0
          have hsm:S[m]'(by rw[HSL.out];exact hm2)=S[m]?.getD false:=by rw[List.getElem?_eq_getElem (by rw[HSL.out];exact hm2)];rfl
          rw[hsm] at s0
          have HQ:=hid (fun W=>HMK.out m (S[m]?.getD false) W)
          obtain ⟨y,hy⟩:∃ y,S[m]?.getD false=y:=⟨_,rfl⟩
          rw[hy] at s0 HSN HQ
          obtain ⟨u,hu⟩:∃ u,wd ws m=u:=⟨_,rfl⟩
          rw[hu] at x0 HSN HQ
          obtain ⟨v,hv⟩:∃ v,zf1 u y=v:=⟨_,rfl⟩
          obtain ⟨er,her⟩:∃ er,znw u y=er:=⟨_,rfl⟩
          rw[hv] at HSN HQ
          rw[her] at HQ
          have z0:=(hB.cell (p:=⟨gB,0,none⟩) hgB3).trans HBX3.out
          have hlm:(k:Int)<(d.length:Int):=by omega
          have hmi:(m:Int)<(ws.length:Int):=by omega
          have hm0:(0:Int)≤(m:Int):=by omega
          have hk0:(0:Int)≤(k:Int):=by omega
          have HBN:=hid (hB.alloc hz (.cells #[.int .i64 (m:Int),.int .i64 xs,.int .i64 xk,.int .i64 xt,.bool xm,.int .u64 (xn:Int)] 55))
          have BN:=hid (Bx.new wr 55 #[.int .i64 (m:Int),.int .i64 xs,.int .i64 xk,.int .i64 xt,.bool xm,.int .u64 (xn:Int)])
          have HON:=hid (hown.alloc (.cells #[.int .i64 (m:Int),.int .i64 xs,.int .i64 xk,.int .i64 xt,.bool xm,.int .u64 (xn:Int)] 55))
          have HX0:=hid ((World.cell?_alloc_lt wr (.cells #[.int .i64 (m:Int),.int .i64 xs,.int .i64 xk,.int .i64 xt,.bool xm,.int .u64 (xn:Int)] 55) ⟨bW,oW+m,none⟩ (by show bW<wr.heap.size;omega)).trans x0)
          have HS0:=hid ((World.cell?_alloc_lt wr (.cells #[.int .i64 (m:Int),.int .i64 xs,.int .i64 xk,.int .i64 xt,.bool xm,.int .u64 (xn:Int)] 55) ⟨g,m,none⟩ (by show g<wr.heap.size;omega)).trans s0)
          have HZ0':=hid ((World.cell?_alloc_lt wr (.cells #[.int .i64 (m:Int),.int .i64 xs,.int .i64 xk,.int .i64 xt,.bool xm,.int .u64 (xn:Int)] 55) ⟨gB,0,none⟩ (by show gB<wr.heap.size;omega)).trans z0)
          clear hx hwe hsm hy hu hv her x0 s0 z0 hown
          go_upto_region 12 with (fail)
          obtain ⟨wn,hwn⟩:∃ wn,wr.alloc (.cells #[.int .i64 (m:Int),.int .i64 xs,.int .i64 xk,.int .i64 xt,.bool xm,.int .u64 (xn:Int)] 55)=wn:=⟨_,rfl⟩
          rw[hwn] at HBN BN HON HX0 HS0 HZ0' ⊢
          have hszn:wn.heap.size=wr.heap.size+1:=by rw[←hwn];simp
          clear hwn q0 q1 q2 q3 q4 q5
          obtain ⟨p0,p1,p2,p3,p4,p5,pf,hgn⟩:=BN.out.c6
          have x0:=HX0.out
          have s0:=HS0.out
          have z0:=HZ0'.out
          have gW:bW<wn.heap.size:=by omega
          have gS:g<wn.heap.size:=by omega
          have gZ:gB<wn.heap.size:=by omega
          go_region_held3 (fun X:World=>X.cell? ⟨bW,oW+m,none⟩=some (.int .u64 (u:Int))∧X.cell? ⟨gB,0,none⟩=some (.slice (some ⟨g,0,none⟩) ws.length c2)∧X.cell? ⟨g,m,none⟩=some (.bool y)∧X.cell? ⟨wr.heap.size,0,none⟩=some (.int .i64 (m:Int))) (go_keep)
           (first | (go_at_call 205;refine (HQ.out _).mono ?_;rintro e w5 ⟨rfl,hB5⟩;have m0:=(hB5.cell (p:=⟨bW,oW+m,none⟩) gW).trans x0;have m1:=(hB5.cell (p:=⟨gB,0,none⟩) gZ).trans z0;have m2:=(hB5.cell (p:=⟨g,m,none⟩) gS).trans s0;have m3:=(hB5.cell (p:=⟨wr.heap.size,0,none⟩) hgn).trans p0))
          have hb5:Below wn.heap.size wn w5:=(Below.refl _ _).drew.trans hB5
          have hown5:=zak HON.out hb5 (Nat.le_refl _)
          have hbb5:=HBN.out.trans (hb5.mono HBN.out.size)
          have hz5:=hbb5.size
          have hkl:(d.take k).length=k:=by rw[List.length_take];omega
          have hkl1:(d.take (k+1)).length=k+1:=by rw[List.length_take];omega
          rw[hkl] at hown5
          have HL1:=hid hkl1
          have HOW5:=hid hown5
          have HBB5:=hid hbb5
          clear x0 s0 z0 p0 p1 p2 p4 p5 pf m0 m1 m2 hB5 hb5 hkl hkl1 hown5 hbb5 HON HBN BN HX0 HS0 HZ0'
          go_wp2_with (at_builtin;refine wpList_append_own _ rfl _ _ 26 rfl w3.heap.size 89 i0 _ 2 16 Tryz.underlying26 HI.out HZ0.out HZ1.out HZ2.out rfl (by decide) _ _ _ rfl (HOW5.out.alloc _) ⟨_,0,none⟩ 1 1 [.int .i64 (m:Int),.int .u64 (v:Int)] rfl rfl (zcl _ _ _) (by simp[Value.oneCell']) (by unfold maxLen;omega) (by omega) (by simp;omega) ?_;intro v1 w6 hown1 hg1 _;have hB6:=zaw HBB5.out (by omega) HOW5.out hg1)
          go_roundw
          case rel=>exact ⟨k+1,by omega,by go_num,by rw[HSN.out,HL1.out,zb6];exact hown1,hB6⟩
          case measure=>simp[intOf];omega
        · rw[List.take_of_length_le (by omega)] at hown
          have hown2:wr.ownsRow w3.heap.size 89 2 u7 (za4 ws).length ((za4 ws).flatMap En.cells):=by rw[HV.out.2,List.length_map];exact hown
          obtain ⟨A4,c4,rfl⟩:=zbb hown2
          have HOW4:=hid (zbf hown2 HB3.out.size)
          clear hown hown2
          go_wp2_with fail
          go_ret2
          exact ⟨⟨A4,c4,by rw[HV.out.1];rfl,HOW4.out⟩,HB3.out.trans (hB.mono HB3.out.size)⟩
     · exfalso
       rw[HV.out.1] at h9
       exact absurd h9 (by decide)
   · have HZ:=hid hz
     clear h0 hl hbd hz
     go_enter Tryz.func141,Tryz.ntmps141
     go_wp2_with fail
     refine HC.out.mono ?_
     rintro e w1 ⟨⟨A1,c1,rfl,hown1⟩,hB1⟩
     have HB1:=hid hB1
     have HR1:=hid (HR.out.up hB1 hB1.size)
     have HO1:=hid hown1
     clear hown1 hB1
     go_wp2_with fail
     refine (HRC.out A1 _ w1 HR1.out (show RdB _ _ _ _ from Rd.of_own HO1.out)).mono ?_
     rintro e wE ⟨⟨h9,-⟩|⟨h9,rfl⟩,hB2⟩
     · exact absurd h9 HZ.out
     · have HBE:=hid (HB1.out.trans (hB2.mono HB1.out.size))
       have H9:=hid h9
       clear h9
       go_wp2_with fail
       go_ret2
       exact ⟨zbv H9.out (zvs H9.out (by decide)),HBE.out.alloc HBE.out.size _⟩
 · have HZ:=hid (And.intro (zoc h0) h0)
   obtain ⟨r,hr⟩:∃ r,zae ws=r:=⟨_,rfl⟩
   rw[hr] at HC HZ
   have hn1:(r != 0)=true:=by rw[bne_iff_ne,←hr];exact h0
   obtain ⟨q,hq⟩:∃ q,(zab ws).length=q:=⟨_,rfl⟩
   rw[hq] at HC
   clear h0 hr hq
   go_enter Tryz.func141,Tryz.ntmps141
   go_wp2_with fail
   refine HC.out.mono ?_
   rintro e w1 ⟨⟨A1,c1,rfl,-⟩,hB1⟩
   go_wp2_with fail
   go_ret2
   exact ⟨zbv HZ.out.1 (zvs HZ.out.1 HZ.out.2),hB1⟩
end Go.Proofs.YtpcajamacpbjcaaGreat
