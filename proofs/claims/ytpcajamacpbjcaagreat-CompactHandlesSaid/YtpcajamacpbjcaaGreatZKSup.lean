/- Texts laid together: R02S SupP SupR SupS SupT. -/
import Derived.Test.YtpcajamacpbjcaaGreatZKMove
import Derived.Test.YtpcajamacpbjcaaGreatZKImage
import Derived.Test.YtpcajamacpbjcaaGreatZKRef15
import Derived.Test.YtpcajamacpbjcaaGreatZKStg2
namespace Go.Proofs.YtpcajamacpbjcaaGreat
open Lib (hid)
open Go.RowKit
set_option maxRecDepth 100000 in
set_option maxHeartbeats 2000000 in
theorem zA3 (A B:Option Addr) (a b:List Nat) (n m c d H:Nat) (w:World) (hn:a.length=n) (hm:b.length=m) (h1:n≤1000000) (ha:RdW w H A a) (hb:RdW w H B b) (hH:H≤w.heap.size) :
   Calls Tryz.prog 79 #[.slice A n c,.slice B m d] w fun e w'=>e=.returned (.bool (decide (a=b)))∧Below w.heap.size w w':=by
 subst hn hm
 have HA:=hid (ha.more hH)
 have HB:=hid (hb.more hH)
 clear ha hb hH
 by_cases hl:a.length=b.length
 · have HY:Hid (a.take a.length=b.take a.length→decide (a=b)=true):=hid fun h=>zvn hl h
   have HN:Hid (∀ k (h:k<a.length) (h2:k<b.length),a[k]≠b[k]→decide (a=b)=false):=hid fun k h h2 h3=>zzh h h2 h3
   obtain ⟨q,hq⟩:∃ q,decide (a=b)=q:=⟨_,rfl⟩
   rw[hq] at HY HN ⊢
   have hne:((a.length:Int) != (b.length:Int))=false:=by rw[bne_eq_false_iff_eq];omega
   have hnen:(a.length != b.length)=false:=by rw[bne_eq_false_iff_eq];exact hl
   have HL:=hid hl
   clear hq hl
   go_enter Tryz.func79,Tryz.ntmps79
   go_wp2_with fail
   go_loopw [5] (fun i wr=>∃ k:Nat,k≤a.length∧i=.int .i64 k∧Hid (a.take k=b.take k)∧Below w.heap.size w wr) (fun i _=>a.length - (intOf i).toNat)
   case atStart=>exact ⟨0,Nat.zero_le _,rfl,rfl,Below.refl _ _⟩
   case round =>
    obtain ⟨k,hk,rfl,HT,hB⟩:=hrel
    by_cases hlt:k<a.length
    · have hlt2:k<b.length:=by have:=HL.out;omega
      obtain ⟨g1,o1,rfl,hg1,p0⟩:=RdW.at_ (Rd.below HA.out hB) hlt
      obtain ⟨g2,o2,rfl,hg2,r0⟩:=RdW.at_ (Rd.below HB.out hB) hlt2
      have HTS:=hid (fun h=>zq5 hlt hlt2 HT.out h)
      have HNN:=hid (HN.out k hlt hlt2)
      obtain ⟨x,hx⟩:∃ x,a[k]=x:=⟨_,rfl⟩
      obtain ⟨y,hy⟩:∃ y,b[k]=y:=⟨_,rfl⟩
      rw[hx] at p0 HTS HNN
      rw[hy] at r0 HTS HNN
      have hk1:(k:Int)<(a.length:Int):=by omega
      have hk2:(k:Int)<(b.length:Int):=by omega
      have hk0:(0:Int)≤(k:Int):=by omega
      clear hx hy
      have hways:((x == y)=true∧((x:Int) != (y:Int))=false∧(x != y)=false)∨((x == y)=false∧((x:Int) != (y:Int))=true∧(x != y)=true):=by
        by_cases e:x=y
        · left;subst e;simp
        · right;exact ⟨by rw[beq_eq_false_iff_ne];exact e,by rw[bne_iff_ne];omega,by rw[bne_iff_ne];exact e⟩
      rcases hways with ⟨e1,e2,e3⟩|⟨e1,e2,e3⟩
      · have HE:=hid (HTS.out (by rw[beq_iff_eq] at e1;exact e1))
        go_wp2_with fail
        first
          | (go_region_held3 (fun X:World=>X.cell? ⟨g1,o1+k,none⟩=some (.int .u64 (x:Int))∧X.cell? ⟨g2,o2+k,none⟩=some (.int .u64 (y:Int))) (go_keep) (fail))
          | fail
        go_wp2_with fail
        go_roundw
        case rel=>exact ⟨k+1,by omega,by go_num,HE.out,hB.drew⟩
        case measure=>simp[intOf];omega
      · have HE:=hid (HNN.out (by intro h;rw[h] at e1;simp at e1))
        go_wp2_with fail
        first
          | (go_region_held3 (fun X:World=>X.cell? ⟨g1,o1+k,none⟩=some (.int .u64 (x:Int))∧X.cell? ⟨g2,o2+k,none⟩=some (.int .u64 (y:Int))) (go_keep) (fail))
          | fail
        go_wp2_with fail
        go_ret
        exact ⟨by rw[HE.out];rfl,hB.drew⟩
    · have HE:=hid (HY.out (by have:=HT.out;rwa [show k=a.length by omega] at this))
      go_wp2_with fail
      go_ret
      exact ⟨by rw[HE.out];rfl,hB⟩
 · have HN:=hid (zu0 hl)
   have hne:((a.length:Int) != (b.length:Int))=true:=by rw[bne_iff_ne];omega
   have hnen:(a.length != b.length)=true:=by rw[bne_iff_ne];exact hl
   clear hl
   go_enter Tryz.func79,Tryz.ntmps79
   go_wp2_with fail
   go_ret
   exact ⟨by rw[HN.out];rfl,Below.refl _ _⟩
end Go.Proofs.YtpcajamacpbjcaaGreat
namespace Go.Proofs.YtpcajamacpbjcaaGreat
open Lib (hid)
open Go.RowKit
def sp7 (n t:Nat):List Nat:=[32777959566500194,1,n,t,0,0,0]
def spL (n t:Nat):List Nat:=sp7 n t++[zbh 14695981039346656037 (sp7 n t)]
theorem zpa (n t:Nat):(spL n t).length=8:=rfl
def zpm (l:List Nat):Bool:=zah ((wd l 2:Nat):Int) && (decide (wd l 3≤8) && decide (spL (wd l 2) (wd l 3)=l))
def zjf (l:List Nat):Int:=if zpm l=true then 0 else 50
def spV (l:List Nat):Value:=if zpm l=true then .agg #[.int .i64 ((wd l 2:Nat):Int),.int .i64 ((wd l 3:Nat):Int)] else .agg #[.int .i64 0,.int .i64 0]
def sp8 (ws:List Nat) (a:Nat):List Nat:=(ws.drop a).take 8
theorem zkf {ws:List Nat} {a i:Nat} (h:i<8):wd (sp8 ws a) i=wd ws (a+i):=by
 unfold sp8 wd
 rw[List.getElem?_take,if_pos h,List.getElem?_drop]
def zji (ws:List Nat) (a:Nat):Bool:=zpm (sp8 ws a) && wd ws (a+2) == ws.length
def tyN (ws:List Nat):Option Nat:=if zji ws 0=true then some (wd ws 3) else if zji ws 8=true then some (wd ws 11) else none
theorem zjn (l:List Nat):zpm l=true↔zah ((wd l 2:Nat):Int)=true∧wd l 3≤8∧spL (wd l 2) (wd l 3)=l:=by
 unfold zpm
 simp
theorem zr6 {ws:List Nat} {t:Nat} (h:tyN ws=some t):t≤8:=by
 unfold tyN at h
 split at h
 · rename_i h1
   simp only[Option.some.injEq] at h
   unfold zji at h1
   rw[Bool.and_eq_true] at h1
   have:=((zjn _).1 h1.1).2.1
   rw[zkf (by omega)] at this
   simp at this
   omega
 · split at h
   · rename_i h1
     simp only[Option.some.injEq] at h
     unfold zji at h1
     rw[Bool.and_eq_true] at h1
     have:=((zjn _).1 h1.1).2.1
     rw[zkf (by omega)] at this
     simp at this
     omega
   · cases h
end Go.Proofs.YtpcajamacpbjcaaGreat
namespace Go.Proofs.YtpcajamacpbjcaaGreat
open Lib (hid)
open Go.RowKit
def zhv (n t:Nat):Int:=if zah (n:Int)=true then (if t≤8 then 0 else 8) else 8
set_option maxRecDepth 100000 in
set_option maxHeartbeats 1000000 in
theorem zws (n t:Nat) (w:World) (hn:n≤1000000) (ht:t≤1000000) :
   Calls Tryz.prog 286 #[.agg #[.int .i64 (n:Int),.int .i64 (t:Int)]] w fun e w'=>e=.returned (.int .i64 (zhv n t))∧Below w.heap.size w w':=by
 have HB:=hid ((Below.refl w.heap.size w).alloc (Nat.le_refl _) (.cells #[.int .i64 (n:Int),.int .i64 (t:Int)] 126))
 have HS:=hid (fun W=>zrc n W (by omega))
 have d1:decide ((t:Int)<0)=false:=by rw[decide_eq_false_iff_not];omega
 cases hs:zah (n:Int)
 · have HV:=hid (show zhv n t=8 by simp[zhv,hs])
   rw[hs] at HS
   clear hs
   go_enter Tryz.func286,Tryz.ntmps286
   go_wp2_with fail
   refine (HS.out _).mono ?_
   rintro e w1 ⟨rfl,rfl⟩
   go_wp2_with fail
   go_ret
   exact ⟨by rw[HV.out];rfl,HB.out⟩
 · rw[hs] at HS
   by_cases h8:t≤8
   · have HV:=hid (show zhv n t=0 by simp[zhv,hs,h8])
     have d2:decide ((8:Int)<(t:Int))=false:=by rw[decide_eq_false_iff_not];omega
     have d2n:decide (8<t)=false:=by rw[decide_eq_false_iff_not];omega
     clear hs
     go_enter Tryz.func286,Tryz.ntmps286
     go_wp2_with fail
     refine (HS.out _).mono ?_
     rintro e w1 ⟨rfl,rfl⟩
     go_wp2_with fail
     go_ret
     exact ⟨by rw[HV.out];rfl,HB.out⟩
   · have HV:=hid (show zhv n t=8 by simp[zhv,hs,h8])
     have d2:decide ((8:Int)<(t:Int))=true:=by rw[decide_eq_true_iff];omega
     have d2n:decide (8<t)=true:=by rw[decide_eq_true_iff];omega
     clear hs
     go_enter Tryz.func286,Tryz.ntmps286
     go_wp2_with fail
     refine (HS.out _).mono ?_
     rintro e w1 ⟨rfl,rfl⟩
     go_wp2_with fail
     go_ret
     exact ⟨by rw[HV.out];rfl,HB.out⟩
theorem zB5:(Tryz.prog.info? 53).map (fun i=>(i.zero,i.size,i.bytes))=some (some (.int .u64 0),1,8):=by kernel_rfl
set_option maxRecDepth 100000 in
set_option maxHeartbeats 2000000 in
theorem zld (n t:Nat) (w:World) (hn:n≤1000000) (ht:t≤1000000) :
  Calls Tryz.prog 109 #[.agg #[.int .i64 (n:Int),.int .i64 (t:Int)]] w fun e w'=>(∃ A c,e=.returned (.slice A 8 c)∧w'.ownsRow w.heap.size 53 1 (.slice A 8 c) 8 ((spL n t).flatMap zaj))∧Below w.heap.size w w':=by
 have HS:=hid (fun A W (hr:RdW W W.heap.size A (sp7 n t))=>zqi A (sp7 n t) 7 7 W rfl (by omega) hr (fun x hx=>by
  simp only[sp7,List.mem_cons,List.not_mem_nil,or_false] at hx
  omega))
 have HL:=hid (show (spL n t).flatMap zaj=[.int .u64 32777959566500194,.int .u64 1,.int .u64 (n:Int),.int .u64 (t:Int),.int .u64 0,.int .u64 0,.int .u64 0]++[.int .u64 ((zbh 14695981039346656037 (sp7 n t):Nat):Int)] by
  unfold spL
  rw[zb6]
  rfl)
 obtain ⟨q,hq⟩:∃ q,zbh 14695981039346656037 (sp7 n t)=q:=⟨_,rfl⟩
 rw[hq] at HS HL
 have HB:=hid ((Below.refl w.heap.size w).alloc (Nat.le_refl _) (.cells #[.int .i64 (n:Int),.int .i64 (t:Int)] 126))
 have w1:IntKind.u64.wrap (n:Int)=(n:Int):=IntWalk.u64_in _ (by omega)
 have w2:IntKind.u64.wrap (t:Int)=(t:Int):=IntWalk.u64_in _ (by omega)
 clear hq
 obtain ⟨i0,hi,hz0,hz1,hz2⟩:=info_parts zB5
 have HI:=hid hi
 have HZ0:=hid hz0
 have HZ1:=hid hz1
 have HZ2:=hid hz2
 clear hi hz0 hz1 hz2
 go_enter Tryz.func109,Tryz.ntmps109
 go_wp2_with fail
 obtain ⟨wa,hwa⟩:∃ wa,w.alloc (.cells #[.int .i64 (n:Int),.int .i64 (t:Int)] 126)=wa:=⟨_,rfl⟩
 have hsa:wa.heap.size=w.heap.size+1:=by rw[←hwa,World.size_alloc]
 rw[hwa] at HB ⊢
 have hza:=HB.out.size
 have hown:=zdy (n:=7) (sz:=1) wa 53 #[.int .u64 32777959566500194,.int .u64 1,.int .u64 (n:Int),.int .u64 (t:Int),.int .u64 0,.int .u64 0,.int .u64 0] hza rfl (by unfold maxLen;omega)
 rw[hsa] at hown
 clear hsa
 refine (HS.out _ _ (show Rd _ _ _ _ from Rd.of_own hown)).mono ?_
 rintro e w5 ⟨rfl,hB5⟩
 have hownw:=zak hown hB5 (Nat.le_refl _)
 have HB5:=hid ((HB.out.alloc hza (.cells #[.int .u64 32777959566500194,.int .u64 1,.int .u64 (n:Int),.int .u64 (t:Int),.int .u64 0,.int .u64 0,.int .u64 0] 53)).trans (hB5.mono (by simp;omega)))
 clear hwa hown hB5
 go_wp2_with (at_builtin;refine wpList_append_own _ rfl _ _ 22 rfl w.heap.size 53 i0 _ 1 8 Tryz.underlying22 HI.out HZ0.out HZ1.out HZ2.out rfl (by decide) _ _ _ rfl (hownw.alloc _) ⟨_,0,none⟩ 1 1 [.int .u64 (q:Int)] rfl rfl (zcl _ _ _) (by simp[Value.oneCell']) (by unfold maxLen;omega) (by omega) (zcq HB5.out.size) ?_;intro v1 w6 hown1 hg1 _;have hB6:=zaw HB5.out HB5.out.size hownw hg1)
 obtain ⟨A1,c1,rfl⟩:=zbb hown1
 go_ret
 exact ⟨⟨A1,c1,rfl,by rw[HL.out];exact hown1⟩,hB6⟩
theorem zce {fn:Func} {p q:Tmp} (h:fn.results=#[.cell p 126,.tmp q]) (tmps:Array Value) {W:World} {g:Nat} {t:TypeId} {v0 v1 u:Value} (hb:Bx W g t #[v0,v1]) (hp:tmps.getD p undef=.pointer (some ⟨g,0,none⟩)) (hq:tmps.getD q undef=u) :
  (results fn tmps).run Tryz.prog W=.ok (.tuple #[.agg #[v0,v1],u]) W:=by
 obtain ⟨c0,c1,-⟩:=hb.c2
 rw[Array.getD_eq_getD_getElem?] at hp hq
 simp[results,h,hp,hq,go_sem,c0,c1]
theorem zmh {l:List Nat} (h:zpm l=false):spV l=.agg #[.int .i64 0,.int .i64 0]∧zjf l=50:=by simp[spV,zjf,h]
theorem zl7 {l:List Nat} (h:zpm l=true):spV l=.agg #[.int .i64 ((wd l 2:Nat):Int),.int .i64 ((wd l 3:Nat):Int)]∧zjf l=0:=by simp[spV,zjf,h]
theorem zuq {l:List Nat} (h:¬ (zah ((wd l 2:Nat):Int)=true∧wd l 3≤8)):zpm l=false:=by
 cases hq:zpm l with
 | false=>rfl
 | true=>exact absurd ⟨((zjn l).1 hq).1,((zjn l).1 hq).2.1⟩ h
set_option maxRecDepth 100000 in
set_option maxHeartbeats 4000000 in
theorem zD7 (A:Option Addr) (l:List Nat) (c:Nat) (w:World) (hn:l.length=8) (hr:RdW w w.heap.size A l) :
   Calls Tryz.prog 260 #[.slice A 8 c] w fun e w'=>e=.returned (.tuple #[spV l,.int .i64 (zjf l)])∧Below w.heap.size w w':=by
 obtain ⟨b,off,rfl,hb,c2⟩:=RdW.at_ hr (show 2<l.length by omega)
 obtain ⟨b',off',e',-,c3⟩:=RdW.at_ hr (show 3<l.length by omega)
 cases e'
 rw[←zcb] at c2 c3
 have HSZ:=hid (fun h=>zad ((wd l 2:Nat):Int) |>.1 h)
 have HNO:=hid (fun h=>zuq (l:=l) h)
 have HN2:=hid (fun h=>zmh (l:=l) h)
 have HY2:=hid (fun h=>zl7 (l:=l) h)
 have HEQ:Hid (zah ((wd l 2:Nat):Int)=true→wd l 3≤8→zpm l=decide (spL (wd l 2) (wd l 3)=l)):=hid fun h1 h2=>by
   unfold zpm
   rw[h1,decide_eq_true h2]
   rfl
 have HR:=hid hr
 have x0:=Bx.new w 126 #[.int .i64 0,.int .i64 0]
 have X0:=hid x0
 have HB0:=hid ((Below.refl w.heap.size w).alloc (Nat.le_refl _) (.cells #[.int .i64 0,.int .i64 0] 126))
 have c2a:=(World.cell?_alloc_lt w (.cells #[.int .i64 0,.int .i64 0] 126) ⟨b,off+2,none⟩ hb).trans c2
 have c3a:=(World.cell?_alloc_lt w (.cells #[.int .i64 0,.int .i64 0] 126) ⟨b,off+3,none⟩ hb).trans c3
 have HL:=hid hn
 obtain ⟨x,hx⟩:∃ x,wd l 2=x:=⟨_,rfl⟩
 obtain ⟨y,hy⟩:∃ y,wd l 3=y:=⟨_,rfl⟩
 rw[hx] at HSZ HNO HY2 HEQ c2a
 rw[hy] at HNO HY2 HEQ c3a
 clear hx hy c2 c3 hr hn x0
 by_cases hx1:1000000<x
 · have HV:=hid (HN2.out (HNO.out fun h=>by have:=HSZ.out h.1;omega))
   have d1:decide ((1000000:Int)<(x:Int))=true:=by rw[decide_eq_true_iff];omega
   have d1n:decide (1000000<x)=true:=by rw[decide_eq_true_iff];omega
   go_enter Tryz.func260,Tryz.ntmps260
   go_wp2_with fail
   exact bodyPost_ret (v:=.tuple #[.agg #[.int .i64 0,.int .i64 0],.int .i64 50]) (zce Tryz.results260 _ X0.out rfl rfl) rfl ⟨by rw[HV.out.1,HV.out.2],HB0.out⟩
 · have d1:decide ((1000000:Int)<(x:Int))=false:=by rw[decide_eq_false_iff_not];omega
   have d1n:decide (1000000<x)=false:=by rw[decide_eq_false_iff_not];omega
   by_cases hy1:1000000<y
   · have HV:=hid (HN2.out (HNO.out fun h=>by have:=h.2;omega))
     have d2:decide ((1000000:Int)<(y:Int))=true:=by rw[decide_eq_true_iff];omega
     have d2n:decide (1000000<y)=true:=by rw[decide_eq_true_iff];omega
     clear hx1
     go_enter Tryz.func260,Tryz.ntmps260
     go_wp2_with fail
     exact bodyPost_ret (v:=.tuple #[.agg #[.int .i64 0,.int .i64 0],.int .i64 50]) (zce Tryz.results260 _ X0.out rfl rfl) rfl ⟨by rw[HV.out.1,HV.out.2],HB0.out⟩
   · have d2:decide ((1000000:Int)<(y:Int))=false:=by rw[decide_eq_false_iff_not];omega
     have d2n:decide (1000000<y)=false:=by rw[decide_eq_false_iff_not];omega
     have HC:=hid (fun W=>zws x y W (by omega) (by omega))
     have HW:=hid (fun W=>zld x y W (by omega) (by omega))
     have w1:IntKind.i64.wrap (x:Int)=(x:Int):=IntWalk.i64_in _ (by omega)
     have w2:IntKind.i64.wrap (y:Int)=(y:Int):=IntWalk.i64_in _ (by omega)
     have HSP:=hid (zpa x y)
     clear hx1 hy1
     go_enter Tryz.func260,Tryz.ntmps260
     go_wp2_with fail
     go_region_held3 (fun X:World=>X.cell? ⟨b,off+2,none⟩=some (.int .u64 (x:Int))∧X.cell? ⟨b,off+3,none⟩=some (.int .u64 (y:Int))) (go_keep) (fail)
     go_wp2_with fail
     obtain ⟨w5,hw5⟩:∃ w5,((w.alloc (.cells #[.int .i64 0,.int .i64 0] 126)).alloc (.cells #[.int .i64 (x:Int),.int .i64 (y:Int)] 126)).drew=w5:=⟨_,rfl⟩
     have X1:=hid (show Bx w5 w.heap.size 126 #[.int .i64 0,.int .i64 0] by rw[←hw5];exact X0.out.alloc _)
     have x2:Bx w5 (w.heap.size+1) 126 #[.int .i64 (x:Int),.int .i64 (y:Int)]:=by
       rw[←hw5]
       have:=Bx.new (w.alloc (.cells #[.int .i64 0,.int .i64 0] 126)) 126 #[.int .i64 (x:Int),.int .i64 (y:Int)]
       rw[World.size_alloc] at this
       exact this
     have hb5:Below w.heap.size w w5:=by
       rw[←hw5]
       exact (HB0.out.alloc (by simp) _).drew
     have HR5:=hid (HR.out.up hb5 hb5.size)
     have hz5:w.heap.size+1<w5.heap.size:=x2.lt
     have HB5:=hid hb5
     rw[hw5]
     have hH:=‹_∧_›
     clear hH hw5 hb5 c2a c3a X0
     refine (HC.out _).mono ?_
     rintro e w6 ⟨rfl,hB6⟩
     have X16:=hid (X1.out.up hB6 X1.out.lt)
     have x26:=x2.up hB6 x2.lt
     obtain ⟨q0,q1,-,-,hg6⟩:=x26.c2
     have X26:=hid x26
     have HB6:=hid (HB5.out.trans (hB6.mono HB5.out.size))
     have HR6:=hid (HR5.out.up hB6 hB6.size)
     clear x2 x26 hB6 HC
     by_cases h0:zhv x y=0
     · have hok:zah (x:Int)=true∧y≤8:=by
         unfold zhv at h0
         split at h0
         · split at h0
           · exact ⟨by assumption,by assumption⟩
           · exact absurd h0 (by decide)
         · exact absurd h0 (by decide)
       have HEV:=hid (HEQ.out hok.1 hok.2)
       rw[h0]
       clear h0 hok
       go_wp2_with fail
       refine (HW.out _).mono ?_
       rintro e w7 ⟨⟨A7,c7,rfl,hown7⟩,hB7⟩
       have HR7:=hid (HR6.out.up hB7 hB7.size)
       have X17:=hid (X16.out.up hB7 X16.out.lt)
       have X27:=hid (X26.out.up hB7 X26.out.lt)
       have HB7:=hid (HB6.out.trans (hB7.mono HB6.out.size))
       have HO7:=hid (show RdW w7 w7.heap.size A7 (spL x y) from Rd.of_own hown7)
       clear hown7 hB7 q0 q1 hg6
       go_wp2_with fail
       refine (zA3 A7 (some ⟨b,off,none⟩) (spL x y) l 8 8 c7 c w7.heap.size w7 HSP.out HL.out (by omega) HO7.out HR7.out (Nat.le_refl _)).mono ?_
       rintro e w8 ⟨rfl,hB8⟩
       have x18:=X17.out.up hB8 X17.out.lt
       have X18:=hid x18
       have x28:=X27.out.up hB8 X27.out.lt
       obtain ⟨q0,q1,-,-,hg8⟩:=x28.c2
       obtain ⟨r0,r1,f0,f1,hg9⟩:=x18.c2
       have HB8:=hid (HB7.out.trans (hB8.mono HB7.out.size))
       cases hd:decide (spL x y=l)
       · rw[hd] at HEV
         have HV:=hid (HN2.out HEV.out)
         clear hd x18 x28 hB8
         go_wp2_with fail
         exact bodyPost_ret (v:=.tuple #[.agg #[.int .i64 0,.int .i64 0],.int .i64 50]) (zce Tryz.results260 _ ((X18.out.set_ 0 _).set_ 1 _) rfl rfl) rfl ⟨by rw[HV.out.1,HV.out.2],(HB8.out.setCell (by simp) _).setCell (by simp) _⟩
       · rw[hd] at HEV
         have HV:=hid (HY2.out HEV.out)
         clear hd x18 x28 hB8
         go_wp2_with fail
         exact bodyPost_ret (v:=.tuple #[.agg #[.int .i64 (x:Int),.int .i64 (y:Int)],.int .i64 0]) (zce Tryz.results260 _ ((X18.out.set_ 0 _).set_ 1 _) rfl rfl) rfl ⟨by rw[HV.out.1,HV.out.2],(HB8.out.setCell (by simp) _).setCell (by simp) _⟩
     · have HV:=hid (HN2.out (HNO.out fun h=>h0 (by unfold zhv;rw[if_pos h.1,if_pos h.2])))
       have hne:(zhv x y != 0)=true:=by rw[bne_iff_ne];exact h0
       obtain ⟨r0,r1,f0,f1,hg9⟩:=X16.out.c2
       clear h0
       go_wp2_with fail
       exact bodyPost_ret (v:=.tuple #[.agg #[.int .i64 0,.int .i64 0],.int .i64 50]) (zce Tryz.results260 _ ((X16.out.set_ 0 _).set_ 1 _) rfl rfl) rfl ⟨by rw[HV.out.1,HV.out.2],(HB6.out.setCell (by simp) _).setCell (by simp) _⟩
end Go.Proofs.YtpcajamacpbjcaaGreat
namespace Go.Proofs.YtpcajamacpbjcaaGreat
open Lib (hid)
open Go.RowKit
def cpV (ws:List Nat) (a:Nat):Value:=if zji ws a=true then .agg #[.int .i64 ((wd ws (a+2):Nat):Int),.int .i64 ((wd ws (a+3):Nat):Int)] else .agg #[.int .i64 0,.int .i64 0]
theorem zlb {ws:List Nat} {a:Nat} (h:a+8≤ws.length):(sp8 ws a).length=8:=by
 unfold sp8
 rw[List.length_take,List.length_drop];omega
theorem zDm {w:World} {B:Nat} {A:Option Addr} {ws:List Nat} (h:RdW w B A ws) (a:Nat):RdW w B (A.map (·.add a)) (sp8 ws a):=by
 unfold RdW sp8 at *
 rw[zk9 _ zbe,zn8 _ zbe]
 exact (Rd.drop_ h a).take_ 8
set_option maxRecDepth 100000 in
set_option maxHeartbeats 4000000 in
theorem zsi (A:Option Addr) (ws:List Nat) (c n k:Nat) (w:World) (hn:ws.length=n) (hm:n≤2048) (h256:256≤n) (hk:k≤1) (hc:n≤c) (hr:RdW w w.heap.size A ws) :
   Calls Tryz.prog 210 #[.slice A n c,.int .i64 (k:Int)] w fun e w'=>e=.returned (.tuple #[cpV ws (8 * k),.bool (zji ws (8 * k))])∧Below w.heap.size w w':=by
 subst hn
 obtain ⟨b,off,rfl,hb,-⟩:=RdW.at_ hr (show 0<ws.length by omega)
 have hl8:=zlb (ws:=ws) (a:=8 * k) (by omega)
 have hrd:=fun W (hr:RdW W W.heap.size (some ⟨b,off,none⟩) ws)=>zDm hr (8 * k)
 have HRD:=hid (fun W (hr:RdW W W.heap.size (some ⟨b,off,none⟩) ws)=>(zD7 (some ⟨b,off+8 * k,none⟩) (sp8 ws (8 * k)) (c - 8 * k) W hl8 (by
   have:=hrd W hr
   simp only[Option.map_some] at this
   have e:(⟨b,off,none⟩:Addr).add (8 * k)=⟨b,off+8 * k,none⟩:=by unfold Addr.add;split <;> simp_all
   rw[e] at this
   exact this)))
 have HR:=hid hr
 have x0:=Bx.new w 126 #[.int .i64 0,.int .i64 0]
 have X0:=hid x0
 have HB0:=hid ((Below.refl w.heap.size w).alloc (Nat.le_refl _) (.cells #[.int .i64 0,.int .i64 0] 126))
 have e2:wd (sp8 ws (8 * k)) 2=wd ws (8 * k+2):=zkf (by omega)
 have e3:wd (sp8 ws (8 * k)) 3=wd ws (8 * k+3):=zkf (by omega)
 have hcp:zji ws (8 * k)=(zpm (sp8 ws (8 * k)) && wd ws (8 * k+2) == ws.length):=rfl
 have k1:IntKind.i64.wrap ((8:Int) * (k:Int))=((8 * k:Nat):Int):=by rw[IntWalk.i64_in _ (by omega)];omega
 have k2:IntKind.i64.wrap (((8 * k:Nat):Int)+8)=((8 * k+8:Nat):Int):=by rw[IntWalk.i64_in _ (by omega)];omega
 have k3:8 * k+8≤c:=by omega
 have k4:8 * k≤8 * k+8:=by omega
 obtain ⟨j,hj⟩:∃ j,8 * k=j:=⟨_,rfl⟩
 rw[hj] at HRD k1 k2 k3 k4 hcp e2 e3 ⊢
 obtain ⟨l,hl⟩:∃ l,sp8 ws j=l:=⟨_,rfl⟩
 rw[hl] at HRD hcp e2 e3
 clear hr x0 hl8 hrd hl
 have HEN:∀ r:Bool,zji ws j=r→Hid (cpV ws j=if r=true then .agg #[.int .i64 ((wd ws (j+2):Nat):Int),.int .i64 ((wd ws (j+3):Nat):Int)] else .agg #[.int .i64 0,.int .i64 0]):=fun r h=>hid (by unfold cpV;rw[h])
 have HNO:=hid (fun h=>zmh (l:=l) h)
 have HYES:=hid (fun h=>zl7 (l:=l) h)
 rw[e2,e3] at HYES
 have HEN:=hid HEN
 have HCP:=hid hcp
 obtain ⟨x,hx⟩:∃ x,wd ws (j+2)=x:=⟨_,rfl⟩
 obtain ⟨y,hy⟩:∃ y,wd ws (j+3)=y:=⟨_,rfl⟩
 rw[hx] at HCP HEN HYES
 rw[hy] at HEN HYES
 clear hx hy e2 e3 hcp
 cases hs:zpm l
 · have h2:=HNO.out hs
   have hcf:zji ws j=false:=by rw[HCP.out,hs];rfl
   have HV:=HEN.out _ hcf
   have HCF:=hid hcf
   rw[h2.1,h2.2] at HRD
   clear hs h2 hcf HNO HYES HCP HEN
   go_enter Tryz.func210,Tryz.ntmps210
   go_wp2_with fail
   refine (HRD.out _ (HR.out.up HB0.out HB0.out.size)).mono ?_
   rintro e w1 ⟨rfl,hB1⟩
   have x1:=X0.out.up hB1 X0.out.lt
   obtain ⟨p0,p1,f0,f1,hg⟩:=x1.c2
   have X1:=hid x1
   have HB1:=hid (HB0.out.trans (hB1.mono HB0.out.size))
   have hzz:w.heap.size<w1.heap.size:=x1.lt
   clear x1 hB1
   go_wp2_with fail
   exact bodyPost_ret (v:=.tuple #[.agg #[.int .i64 0,.int .i64 0],.bool false]) (zce Tryz.results210 _ (((X1.out.set_ 0 _).set_ 1 _).alloc _) rfl rfl) rfl ⟨by rw[HV.out,HCF.out];rfl,((HB1.out.setCell (Nat.le_refl _) _).setCell (Nat.le_refl _) _).alloc (by simp;omega) _⟩
 · have h2:=HYES.out hs
   rw[h2.1,h2.2] at HRD
   by_cases hxl:x=ws.length
   · have hcf:zji ws j=true:=by rw[HCP.out,hs,hxl];simp
     have HV:=HEN.out _ hcf
     have HCF:=hid hcf
     have d1:((x:Int) != (ws.length:Int))=false:=by rw[bne_eq_false_iff_eq];omega
     have d1n:(x != ws.length)=false:=by rw[bne_eq_false_iff_eq];exact hxl
     clear hs h2 hcf HNO HYES HCP HEN hxl
     go_enter Tryz.func210,Tryz.ntmps210
     go_wp2_with fail
     refine (HRD.out _ (HR.out.up HB0.out HB0.out.size)).mono ?_
     rintro e w1 ⟨rfl,hB1⟩
     have x1:=X0.out.up hB1 X0.out.lt
     obtain ⟨p0,p1,f0,f1,hg⟩:=x1.c2
     have X1:=hid x1
     have HB1:=hid (HB0.out.trans (hB1.mono HB0.out.size))
     have hzz:w.heap.size<w1.heap.size:=x1.lt
     clear x1 hB1
     go_wp2_with fail
     exact bodyPost_ret (v:=.tuple #[.agg #[.int .i64 (x:Int),.int .i64 (y:Int)],.bool true]) (zce Tryz.results210 _ (((X1.out.set_ 0 _).set_ 1 _).alloc _) rfl rfl) rfl ⟨by rw[HV.out,HCF.out];rfl,((HB1.out.setCell (Nat.le_refl _) _).setCell (Nat.le_refl _) _).alloc (by simp;omega) _⟩
   · have hcf:zji ws j=false:=by
      rw[HCP.out,hs]
      simp[hxl]
     have HV:=HEN.out _ hcf
     have HCF:=hid hcf
     have d1:((x:Int) != (ws.length:Int))=true:=by rw[bne_iff_ne];omega
     have d1n:(x != ws.length)=true:=by rw[bne_iff_ne];exact hxl
     clear hs h2 hcf HNO HYES HCP HEN hxl
     go_enter Tryz.func210,Tryz.ntmps210
     go_wp2_with fail
     refine (HRD.out _ (HR.out.up HB0.out HB0.out.size)).mono ?_
     rintro e w1 ⟨rfl,hB1⟩
     have x1:=X0.out.up hB1 X0.out.lt
     obtain ⟨p0,p1,f0,f1,hg⟩:=x1.c2
     have X1:=hid x1
     have HB1:=hid (HB0.out.trans (hB1.mono HB0.out.size))
     have hzz:w.heap.size<w1.heap.size:=x1.lt
     clear x1 hB1
     go_wp2_with fail
     exact bodyPost_ret (v:=.tuple #[.agg #[.int .i64 0,.int .i64 0],.bool false]) (zce Tryz.results210 _ (((X1.out.set_ 0 _).set_ 1 _).alloc _) rfl rfl) rfl ⟨by rw[HV.out,HCF.out];rfl,((HB1.out.setCell (Nat.le_refl _) _).setCell (Nat.le_refl _) _).alloc (by simp;omega) _⟩
end Go.Proofs.YtpcajamacpbjcaaGreat
namespace Go.Proofs.YtpcajamacpbjcaaGreat
open Lib (hid)
open Go.RowKit
def zid (ws:List Nat):Int:=if zah (ws.length:Int)=true then (if (tyN ws).isSome=true then 0 else 50) else 8
def zCj (ws:List Nat) (e:Ending):Prop:=∃ (a:Int) (b0 b1:Bool),e=.returned (.tuple #[.agg #[.int .i64 a,.int .i64 (((tyN ws).getD 0:Nat):Int)],.agg #[.bool b0,.bool b1],.int .i64 (zid ws)])
theorem zcn {fn:Func} {p q r:Tmp} (h:fn.results=#[.cell p 126,.cell q 127,.tmp r]) (tmps:Array Value) {W:World} {g g':Nat} {t t':TypeId} {v0 v1 u0 u1 u:Value} (hb:Bx W g t #[v0,v1]) (hb':Bx W g' t' #[u0,u1]) (hp:tmps.getD p undef=.pointer (some ⟨g,0,none⟩)) (hp':tmps.getD q undef=.pointer (some ⟨g',0,none⟩)) (hq:tmps.getD r undef=u) :
  (results fn tmps).run Tryz.prog W=.ok (.tuple #[.agg #[v0,v1],.agg #[u0,u1],u]) W:=by
 obtain ⟨c0,c1,-⟩:=hb.c2
 obtain ⟨d0,d1,-⟩:=hb'.c2
 rw[Array.getD_eq_getD_getElem?] at hp hp' hq
 simp[results,h,hp,hp',hq,go_sem,c0,c1,d0,d1]
theorem zth {ws:List Nat} (h:zah (ws.length:Int)=false):tyN ws=none∧zid ws=8:=by
 have key:∀ a,zji ws a=false:=fun a=>by
  cases hq:zji ws a with
  | false=>rfl
  | true =>
   unfold zji at hq
   simp only[Bool.and_eq_true,beq_iff_eq] at hq
   have h1:=((zjn _).1 hq.1).1
   rw[zkf (by omega),hq.2,h] at h1
   cases h1
 exact ⟨by unfold tyN;rw[key,key];rfl,by unfold zid;rw[h];rfl⟩
theorem zBq {ws:List Nat}:zid ws=0↔zah (ws.length:Int)=true∧(tyN ws).isSome=true:=by
 unfold zid
 split
 · split <;> simp_all
 · simp_all
set_option maxRecDepth 100000 in
set_option maxHeartbeats 4000000 in
theorem zsg (A:Option Addr) (ws:List Nat) (c n:Nat) (w:World) (hn:ws.length=n) (hm:n≤9223372036854775807) (hc:n≤c) (hr:RdW w w.heap.size A ws) :
   Calls Tryz.prog 149 #[.slice A n c] w fun e w'=>zCj ws e∧Below w.heap.size w w':=by
 subst hn
 have HR:=hid hr
 have HIM:=hid (fun W=>zlp A ws.length c W hm)
 have HB0:=hid (((Below.refl w.heap.size w).alloc (Nat.le_refl _) (.cells #[.int .i64 0,.int .i64 0] 126)).alloc (by simp) (.cells #[.bool false,.bool false] 127))
 have x0:=(Bx.new w 126 #[.int .i64 0,.int .i64 0]).alloc (.cells #[.bool false,.bool false] 127)
 have x1:=Bx.new (w.alloc (.cells #[.int .i64 0,.int .i64 0] 126)) 127 #[.bool false,.bool false]
 rw[World.size_alloc] at x1
 have X0:=hid x0
 have X1:=hid x1
 clear x0 x1 hr
 cases hs:zah (ws.length:Int)
 · have HV:=hid (zth hs)
   rw[zbw hs] at HIM
   clear hs
   go_enter Tryz.func149,Tryz.ntmps149
   go_wp2_with fail
   refine (HIM.out _).mono ?_
   rintro e w1 ⟨rfl,rfl⟩
   go_wp2_with fail
   exact bodyPost_ret (v:=.tuple #[.agg #[.int .i64 0,.int .i64 0],.agg #[.bool false,.bool false],.int .i64 8]) (zcn Tryz.results149 _ X0.out X1.out rfl rfl rfl) rfl ⟨⟨0,false,false,by rw[HV.out.1,HV.out.2];rfl⟩,HB0.out⟩
 · have hb:=(zad _).1 hs
   rw[zbc hs] at HIM
   have HC0:=hid (fun W (hr:RdW W W.heap.size A ws)=>(show Calls Tryz.prog 210 #[.slice A ws.length c,.int .i64 0] W fun e w'=>e=.returned (.tuple #[cpV ws 0,.bool (zji ws 0)])∧Below W.heap.size W w' from zsi A ws c ws.length 0 W rfl (by omega) (by omega) (by omega) hc hr))
   have HC1:=hid (fun W (hr:RdW W W.heap.size A ws)=>(show Calls Tryz.prog 210 #[.slice A ws.length c,.int .i64 1] W fun e w'=>e=.returned (.tuple #[cpV ws 8,.bool (zji ws 8)])∧Below W.heap.size W w' from zsi A ws c ws.length 1 W rfl (by omega) (by omega) (by omega) hc hr))
   have HV:Hid (tyN ws=(if zji ws 0=true then some (wd ws 3) else if zji ws 8=true then some (wd ws 11) else none)∧zid ws=if (tyN ws).isSome=true then 0 else 50):=hid ⟨rfl,by unfold zid;rw[if_pos hs]⟩
   unfold cpV at HC0 HC1
   simp only[Nat.zero_add,Nat.reduceAdd] at HC0 HC1
   obtain ⟨x2,hx2⟩:∃ x,wd ws 2=x:=⟨_,rfl⟩
   obtain ⟨x3,hx3⟩:∃ x,wd ws 3=x:=⟨_,rfl⟩
   obtain ⟨y2,hy2⟩:∃ x,wd ws 10=x:=⟨_,rfl⟩
   obtain ⟨y3,hy3⟩:∃ x,wd ws 11=x:=⟨_,rfl⟩
   rw[hx2,hx3] at HC0
   rw[hy2,hy3] at HC1
   rw[hx3,hy3] at HV
   clear hs hb hx2 hx3 hy2 hy3
   cases h0:zji ws 0 <;> cases h1:zji ws 8
   all_goals
    rw[h0] at HC0
    rw[h1] at HC1
    rw[h0,h1] at HV
    simp only[if_true,Bool.false_eq_true,if_false] at HC0 HC1 HV
    clear h0 h1
    go_enter Tryz.func149,Tryz.ntmps149
    go_wp2_with fail
    refine (HIM.out _).mono ?_
    rintro e w1 ⟨rfl,rfl⟩
    go_wp2_with fail
    refine (HC0.out _ (HR.out.up HB0.out HB0.out.size)).mono ?_
    rintro e w2 ⟨rfl,hB2⟩
    have X02:=hid (X0.out.up hB2 X0.out.lt)
    have X12:=hid (X1.out.up hB2 X1.out.lt)
    have hb2:=HB0.out.trans (hB2.mono HB0.out.size)
    clear hB2
    go_wp2_with fail
    have hz2:=hb2.size
    have HB2:=hid (hb2.alloc hz2 (.cells #[.int .i64 0,.int .i64 0] 126))
    have HB2x:=hid (hb2.alloc hz2 (.cells #[.int .i64 (x2:Int),.int .i64 (x3:Int)] 126))
    have hl0:=X02.out.lt
    have hl1:=X12.out.lt
    clear hb2
    first
     | refine (HC1.out _ (HR.out.up HB2.out HB2.out.size)).mono ?_
     | refine (HC1.out _ (HR.out.up HB2x.out HB2x.out.size)).mono ?_
    rintro e w3 ⟨rfl,hB3⟩
    first
     | (
      have hcur:=HB2.out.trans (hB3.mono HB2.out.size)
      have x03:=(X02.out.alloc (.cells #[.int .i64 0,.int .i64 0] 126)).up hB3 (by simp;omega)
      have x13:=(X12.out.alloc (.cells #[.int .i64 0,.int .i64 0] 126)).up hB3 (by simp;omega)
      have xs3:=(Bx.new w2 126 #[.int .i64 0,.int .i64 0]).up hB3 (by simp))
     | (
      have hcur:=HB2x.out.trans (hB3.mono HB2x.out.size)
      have x03:=(X02.out.alloc (.cells #[.int .i64 (x2:Int),.int .i64 (x3:Int)] 126)).up hB3 (by simp;omega)
      have x13:=(X12.out.alloc (.cells #[.int .i64 (x2:Int),.int .i64 (x3:Int)] 126)).up hB3 (by simp;omega)
      have xs3:=(Bx.new w2 126 #[.int .i64 (x2:Int),.int .i64 (x3:Int)]).up hB3 (by simp))
    obtain ⟨p0,p1,f0,f1,hg0⟩:=x03.c2
    obtain ⟨q0,q1,g0,g1,hg1⟩:=x13.c2
    obtain ⟨r0,r1,-,-,hg2⟩:=xs3.c2
    have X03:=hid x03
    have X13:=hid x13
    have HB3:=hid hcur
    clear hcur hB3 x03 x13 xs3 HB2 HB2x
    go_wp2_with fail
   all_goals
    first
     | exact bodyPost_ret (v:=.tuple #[.agg #[.int .i64 0,.int .i64 0],.agg #[.bool false,.bool false],.int .i64 50]) (zcn Tryz.results149 _ (((((X03.out.set_ 0 _).set_ 1 _).far (by simp) _).far (by simp) _).alloc _) (((((X13.out.far (by simp) _).far (by simp) _).set_ 0 _).set_ 1 _).alloc _) rfl rfl rfl) rfl ⟨⟨0,false,false,by rw[HV.out.2,HV.out.1];rfl⟩,((((HB3.out.setCell (Nat.le_refl _) _).setCell (Nat.le_refl _) _).setCell (Nat.le_succ _) _).setCell (Nat.le_succ _) _).alloc (by simp;omega) _⟩
     | exact bodyPost_ret (v:=.tuple #[.agg #[.int .i64 (y2:Int),.int .i64 (y3:Int)],.agg #[.bool false,.bool true],.int .i64 0]) (zcn Tryz.results149 _ (((((X03.out.set_ 0 _).set_ 1 _).far (by simp) _).far (by simp) _).alloc _) (((((X13.out.far (by simp) _).far (by simp) _).set_ 0 _).set_ 1 _).alloc _) rfl rfl rfl) rfl ⟨⟨y2,false,true,by rw[HV.out.2,HV.out.1];rfl⟩,((((HB3.out.setCell (Nat.le_refl _) _).setCell (Nat.le_refl _) _).setCell (Nat.le_succ _) _).setCell (Nat.le_succ _) _).alloc (by simp;omega) _⟩
     | exact bodyPost_ret (v:=.tuple #[.agg #[.int .i64 (x2:Int),.int .i64 (x3:Int)],.agg #[.bool true,.bool false],.int .i64 0]) (zcn Tryz.results149 _ (((((X03.out.set_ 0 _).set_ 1 _).far (by simp) _).far (by simp) _).alloc _) (((((X13.out.far (by simp) _).far (by simp) _).set_ 0 _).set_ 1 _).alloc _) rfl rfl rfl) rfl ⟨⟨x2,true,false,by rw[HV.out.2,HV.out.1];rfl⟩,((((HB3.out.setCell (Nat.le_refl _) _).setCell (Nat.le_refl _) _).setCell (Nat.le_succ _) _).setCell (Nat.le_succ _) _).alloc (by simp;omega) _⟩
     | exact bodyPost_ret (v:=.tuple #[.agg #[.int .i64 (x2:Int),.int .i64 (x3:Int)],.agg #[.bool true,.bool true],.int .i64 0]) (zcn Tryz.results149 _ (((((X03.out.set_ 0 _).set_ 1 _).far (by simp) _).far (by simp) _).alloc _) (((((X13.out.far (by simp) _).far (by simp) _).set_ 0 _).set_ 1 _).alloc _) rfl rfl rfl) rfl ⟨⟨x2,true,true,by rw[HV.out.2,HV.out.1];rfl⟩,((((HB3.out.setCell (Nat.le_refl _) _).setCell (Nat.le_refl _) _).setCell (Nat.le_succ _) _).setCell (Nat.le_succ _) _).alloc (by simp;omega) _⟩
end Go.Proofs.YtpcajamacpbjcaaGreat
