/- Texts laid together: SldM SldU CurP StgP RmkP MkPP SlP WnB StgQ StgD StgS. -/
import Derived.Test.YtpcajamacpbjcaaGreatZKMove
import Derived.WalkSpells
import Derived.Test.YtpcajamacpbjcaaGreatZKCursor
import Derived.Test.YtpcajamacpbjcaaGreatZKWnt
import Derived.Test.YtpcajamacpbjcaaGreatZKFix
import Derived.Test.YtpcajamacpbjcaaGreatZKHeap
namespace Go.Proofs.YtpcajamacpbjcaaGreat
open Lib (hid)
open Go.RowKit
def zf4 (ws:List Nat) (a u n i:Nat):List En:=(List.range n).map fun j=>if j<i then ⟨((u+j:Nat):Int),wd ws (a+j)⟩ else ⟨0,0⟩
def zix (ws:List Nat) (a u:Nat):List En:=(List.range (szAt ws a)).map fun j=>⟨((u+j:Nat):Int),if j=0 then zcg { zaf (wd ws a) with mark:=false } else if j=1 then 0 else wd ws (a+j)⟩
def zi3 (ws:List Nat) (f t:Int):List En:=if zex ws f t=0 then zix ws f.toNat t.toNat else []
theorem zqp {ws:List Nat} {f t r:Int} (hr:zex ws f t=r) (h0:r≠0):zi3 ws f t=[]:=by subst hr;simp[zi3,h0]
theorem zfg (ws:List Nat) (a u n i:Nat):(zf4 ws a u n i).length=n:=by simp[zf4]
theorem zgs (ws:List Nat) (a u n i j:Nat) (hj:j<n):(zf4 ws a u n i)[j]? = some (if j<i then ⟨((u+j:Nat):Int),wd ws (a+j)⟩ else ⟨0,0⟩):=by simp[zf4,hj]
theorem zwm (ws:List Nat) (a u n i:Nat) (hi:i<n):zf4 ws a u n (i+1)=(zf4 ws a u n i).set i ⟨((u+i:Nat):Int),wd ws (a+i)⟩:=by
 apply List.ext_getElem?
 intro j
 rw[List.getElem?_set]
 by_cases hj:j<n
 · rw[zgs _ _ _ _ _ _ hj,zgs _ _ _ _ _ _ hj]
   by_cases e:i=j
   · subst e;rw[if_pos (show i<i+1 by omega),if_pos rfl,if_pos (show i<(zf4 ws a u n i).length by rw[zfg];exact hi)]
   · rw[if_neg e]
     by_cases h:j<i
     · rw[if_pos h,if_pos (by omega)]
     · rw[if_neg h,if_neg (by omega)]
 · rw[List.getElem?_eq_none (by rw[zfg];omega),if_neg (by omega),List.getElem?_eq_none (by rw[zfg];omega)]
theorem en_set (l:List En) (k:Nat) (x:En):(l.set k x).flatMap En.cells=((l.flatMap En.cells).set (k * 2) (.int .i64 x.a)).set (k * 2+1) (.int .u64 (x.v:Int)):=by
 have h1:=ze9 En.cells 2 En.len l k 0 (by omega) ⟨x.a,(l[k]?.getD default).v⟩ (.int .i64 x.a) (fun y hy=>by rw[hy];rfl)
 have h2:=ze9 En.cells 2 En.len (l.set k ⟨x.a,(l[k]?.getD default).v⟩) k 1 (by omega) x (.int .u64 (x.v:Int)) (fun y hy=>by
  rw[List.getElem?_set] at hy
  simp only[if_true] at hy
  split at hy
  · cases hy;rfl
  · cases hy)
 rw[List.set_set] at h2
 rw[h2,h1];rfl
theorem zAl (l:List En) (k:Nat) (x:En) (v:Nat) (hk:l[k]? = some x):(l.set k ⟨x.a,v⟩).flatMap En.cells=(l.flatMap En.cells).set (k * 2+1) (.int .u64 (v:Int)):=
 ze9 En.cells 2 En.len l k 1 (by omega) ⟨x.a,v⟩ (.int .u64 (v:Int)) (fun y hy=>by rw[hk] at hy;cases hy;rfl)
theorem zKe {ws:List Nat} {a u n:Nat} (hn:szAt ws a=n) (h2:2≤n):zix ws a u=((zf4 ws a u n n).set 0 ⟨(u:Int),zcg { zaf (wd ws a) with mark:=false }⟩).set 1 ⟨((u+1:Nat):Int),0⟩:=by
 apply List.ext_getElem?
 intro j
 rw[List.getElem?_set,List.getElem?_set]
 unfold zix
 rw[hn]
 by_cases hj:j<n
 · rw[zgs _ _ _ _ _ _ hj,if_pos hj]
   simp only[List.getElem?_map,List.getElem?_range hj,Option.map_some,List.length_set,zfg]
   by_cases h0:j=0
   · subst h0;simp[hj]
   · by_cases h1:j=1
     · subst h1;simp[hj]
     · rw[if_neg h0,if_neg h1,if_neg (fun h=>h1 h.symm),if_neg (fun h=>h0 h.symm)]
 · rw[if_neg (by omega),if_neg (by omega),List.getElem?_eq_none (by simp;omega),List.getElem?_eq_none (by rw[zfg];omega)]
theorem zKr (n:Nat):(madeCells #[Value.int .i64 0,.int .u64 0] (n * 2)).toList=(List.replicate n (⟨0,0⟩:En)).flatMap En.cells:=by
 apply List.ext_getElem?
 intro j
 by_cases hj:j<n * 2
 · have hk:j / 2<(List.replicate n (⟨0,0⟩:En)).length:=by rw[List.length_replicate];omega
   have h1:=zhf En.cells 2 En.len (List.replicate n ⟨0,0⟩) (j / 2) (j % 2) hk (by omega)
   rw[show j / 2 * 2+j % 2=j by omega,List.getElem_replicate] at h1
   rw[h1]
   have h2:(madeCells #[Value.int .i64 0,.int .u64 0] (n * 2)).toList[j]? = some (#[Value.int .i64 0,.int .u64 0][j % 2]!):=by simp[madeCells,hj]
   rw[h2]
   rcases (show j % 2=0∨j % 2=1 by omega) with h|h <;> rw[h] <;> rfl
 · rw[List.getElem?_eq_none (by rw[Array.length_toList,size_madeCells];omega),List.getElem?_eq_none (by rw[zcw En.cells 2 En.len,List.length_replicate];omega)]
theorem zyb (ws:List Nat) (a u n:Nat):zf4 ws a u n 0=List.replicate n ⟨0,0⟩:=by
 apply List.ext_getElem?
 intro j
 by_cases hj:j<n
 · rw[zgs _ _ _ _ _ _ hj];simp[hj]
 · rw[List.getElem?_eq_none (by rw[zfg];omega),List.getElem?_eq_none (by simp;omega)]
theorem zq6 {ws:List Nat} {f t:Int} (h:zbi ws f t=0) {l:List Bk} (hl:blocks ws f.toNat=some l) (h2:l=[]∨(gk l 0).mark=false):zex ws f t=6:=by
 unfold zex
 rw[if_pos h,hl]
 cases l with
 | nil=>rfl
 | cons b l =>
  rcases h2 with h2|h2
  · cases h2
  · rw[zmn] at h2;simp[h2]
theorem zxe {ws:List Nat} {f t:Int} (h:zbi ws f t=0) {l:List Bk} (hl:blocks ws f.toNat=some l) (h0:0<l.length) (h2:(gk l 0).mark=true):zex ws f t=0:=by
 unfold zex
 rw[if_pos h,hl]
 cases l with
 | nil=>simp at h0
 | cons b l=>rw[zmn] at h2;simp[h2]
set_option maxRecDepth 100000 in
set_option maxHeartbeats 8000000 in
theorem zHm (A:Option Addr) (ws:List Nat) (c n:Nat) (f t:Int) (w:World) (hn:ws.length=n) (hm:n≤9223372036854775807) (hf : -9223372036854775808≤f∧f≤9223372036854775807) (ht : -9223372036854775808≤t∧t≤9223372036854775807) (hr:RdW w w.heap.size A ws) (ho:∀ x ∈ ws,x<18446744073709551616) :
   Calls Tryz.prog 146 #[.slice A n c,.int .i64 f,.int .i64 t] w fun e w'=>zhc w.heap.size (zex ws f t) (zi3 ws f t) e w'∧Below w.heap.size w w':=by
 subst hn
 have HR:=hid hr
 have HO:=hid ho
 have HC:=hid (zqn A ws c ws.length f t w rfl hm hf ht hr ho)
 unfold zwn at HC
 have HFR:=hid (fun W (h:RdW W W.heap.size A ws)=>zlm A ws c ws.length f W rfl hm h ho)
 unfold zph at HFR
 clear hr ho
 by_cases h0:zbi ws f t=0
 · obtain ⟨g1,g2,l,g3,g4,g5⟩:=zb8 h0
   rw[ze3] at g1
   obtain ⟨f1,f2⟩:=zci g1 (zqa g2) g3
   rw[h0] at HC
   rw[f1,f2] at HFR
   obtain ⟨q,hq⟩:∃ q,(zhn ws f t).length=q:=⟨_,rfl⟩
   rw[hq] at HC
   by_cases hl0:l.length=0
   · have HE:=hid (zq6 h0 g3 (.inl (List.eq_nil_of_length_eq_zero hl0)))
     rw[hl0] at HFR
     clear g1 g2 g3 g4 g5 f1 f2 h0 hq hl0
     go_enter Tryz.func146,Tryz.ntmps146
     go_wp2_with fail
     refine HC.out.mono ?_
     rintro e w1 ⟨⟨A1,c1,rfl,-,-⟩,hB1⟩
     go_wp2_with fail
     refine (HFR.out _ (HR.out.up hB1 hB1.size)).mono ?_
     rintro e w2 ⟨⟨A2,c2,rfl,-,-⟩,hB2⟩
     go_wp2_with fail
     go_ret2
     exact ⟨zbv HE.out (zqp HE.out (by omega)),hB1.trans (hB2.mono hB1.size)⟩
   · have hl1:0<l.length:=by omega
     have hne:((l.length:Int) == 0)=false:=by rw[beq_eq_false_iff_ne];omega
     have hnen:(l.length == 0)=false:=by rw[beq_eq_false_iff_ne];exact hl0
     have hl1i:(0:Int)<(l.length:Int):=by omega
     cases hmk:(gk l 0).mark
     · have HE:=hid (zq6 h0 g3 (.inr hmk))
       rw[zbt l 0 hl1] at hmk
       clear g1 g2 g3 g4 g5 f1 f2 h0 hq hl0
       go_enter Tryz.func146,Tryz.ntmps146
       go_wp2_with fail
       refine HC.out.mono ?_
       rintro e w1 ⟨⟨A1,c1,rfl,-,-⟩,hB1⟩
       go_wp2_with fail
       refine (HFR.out _ (HR.out.up hB1 hB1.size)).mono ?_
       rintro e w2 ⟨⟨A2,c2,rfl,hr2,-⟩,hB2⟩
       obtain ⟨b,off,rfl,hb,q0,q1,q2,q3,q4,q5⟩:=RdB.at_ hr2 hl1
       rw[hmk] at q4
       simp only[Nat.zero_mul,Nat.add_zero] at q4
       clear q0 q1 q2 q3 q5 hr2 hmk
       go_wp2_with fail
       go_ret2
       exact ⟨zbv HE.out (zqp HE.out (by omega)),hB1.trans (hB2.mono hB1.size)⟩
     · have h00:=zxe h0 g3 hl1 hmk
       obtain ⟨a,u,n,rfl,rfl,hnn,n2,n10,hu,hua,han,hst,hlv,-,-,hun⟩:=zfy h00
       rw[Int.toNat_natCast] at g3
       have hfst:=(zcc g3 (by omega)).2.1
       have hbk:l[0]=bkAt ws a:=by rw[←zbt l 0 hl1,hfst]
       have hsz:l[0].size=((n:Nat):Int):=by rw[hbk,zba,hnn]
       rw[zbt l 0 hl1] at hmk
       have hsp:zar (wd ws a)=true:=by unfold stands at hst;simp only[Bool.and_eq_true] at hst;exact hst.1
       have hmv:zf1 (wd ws a) false=zcg { zaf (wd ws a) with mark:=false }∧znw (wd ws a) false=0:=by
        unfold zf1 znw
        rw[if_pos hsp,if_pos hsp]
        have h1:zhs (zg0 (wd ws a) false)=true:=hun
        exact ⟨by unfold zht;rw[if_pos h1];rfl,zg7 h1⟩
       have HMC:=hid (fun W=>zob (wd ws a) false W (ze6 HO.out a))
       rw[hmv.1,hmv.2] at HMC
       have HEN:=hid (zKe (u:=u) hnn.symm n2)
       have HOUT:Hid (zex ws (a:Int) (u:Int)=0∧zi3 ws (a:Int) (u:Int)=zix ws a u):=hid ⟨h00,by simp[zi3,h00]⟩
       obtain ⟨hw,hhw⟩:∃ hw,zcg { zaf (wd ws a) with mark:=false }=hw:=⟨_,rfl⟩
       rw[hhw] at HMC HEN
       obtain ⟨b0,off0,hA0,hb0,p0⟩:=RdW.at_ HR.out (show a<ws.length by omega)
       subst hA0
       rw[←zcb] at p0
       have hbd:=zf5 ws g1
       have hlen:ws.length≤2048:=hbd.2.1
       have ha0:(0:Int)≤(a:Int):=by omega
       have ha1:(a:Int)<(ws.length:Int):=by omega
       have hn0:(0:Int)≤(n:Int):=by omega
       obtain ⟨x,hx⟩:∃ x,wd ws a=x:=⟨_,rfl⟩
       rw[hx] at p0 HMC
       clear g1 g2 g3 g4 g5 f1 f2 h0 h00 hq hl0 hfst hbk hsp hmv hun hhw hst hlv hx hbd hf ht hnn
       obtain ⟨i0,hi,hz0,hz1,hz2⟩:=info_parts zdn
       have HIE:=hid (And.intro hi (And.intro hz0 (And.intro hz1 hz2)))
       clear hi hz0 hz1 hz2
       go_enter Tryz.func146,Tryz.ntmps146
       go_wp2_with fail
       refine HC.out.mono ?_
       rintro e w1 ⟨⟨A1,c1,rfl,-,-⟩,hB1⟩
       go_wp2_with fail
       refine (HFR.out _ (HR.out.up hB1 hB1.size)).mono ?_
       rintro e w2 ⟨⟨A2,c2,rfl,hr2,-⟩,hB2⟩
       have hb2:=hB1.trans (hB2.mono hB1.size)
       obtain ⟨b,off,rfl,hb,q0,q1,q2,q3,q4,q5⟩:=RdB.at_ hr2 hl1
       rw[hmk] at q4
       rw[hsz] at q1
       simp only[Nat.zero_mul,Nat.add_zero] at q4 q1
       have p2:=(hb2.cell (p:=⟨b0,off0+a,none⟩) hb0).trans p0
       clear q0 q2 q3 q5 hr2 hmk hsz
       go_wp2_with fail
       refine (HMC.out _).mono ?_
       rintro e w3 ⟨rfl,hB3⟩
       have hb3:=hb2.trans (hB3.mono hb2.size)
       have q1':=(hB3.cell (p:=⟨b,off+1,none⟩) hb).trans q1
       obtain ⟨W0,hmk,hown0,hg0⟩:=run_make_full (P:=Tryz.prog) w3 w.heap.size 26 89 i0 (.agg #[.int .i64 0,.int .u64 0]) 2 Tryz.underlying26 HIE.out.1 HIE.out.2.1 HIE.out.2.2.1 .i64 .i64 n (by rw[HIE.out.2.2.2];omega) (by unfold maxLen;omega) hb3.size
       have hown1:W0.ownsRow w.heap.size 89 2 (.slice (some ⟨w3.heap.size,0,none⟩) n n) n ((zf4 ws a u n 0).flatMap En.cells):=by
        rw[zyb,←zKr];exact hown0
       have HOW:=hid hown1
       have HBW:=hid (hb3.grown hg0 hb3.size (fun k hk=>by cases hk))
       clear hown0 hg0 hown1 hB3 hb2 hB2 hB1 q4 q1 p2
       go_wp2_with fail
       clear hmk q1'
       have HPS:Hid (∀ i,i<n→zf4 ws a u n (i+1)=(zf4 ws a u n i).set i ⟨((u+i:Nat):Int),wd ws (a+i)⟩):=hid fun i hi=>zwm ws a u n i hi
       have HPL:Hid (∀ i,((zf4 ws a u n i).flatMap En.cells).length=n * 2):=hid fun i=>by rw[zcw En.cells 2 En.len,zfg]
       go_loopw [57] (fun i wr=>∃ k:Nat,k≤n∧i=.int .i64 k∧wr.ownsRow w.heap.size 89 2 (.slice (some ⟨w3.heap.size,0,none⟩) n n) n ((zf4 ws a u n k).flatMap En.cells)∧Below w.heap.size w wr) (fun i _=>n - (intOf i).toNat)
       case atStart=>exact ⟨0,Nat.zero_le _,rfl,HOW.out,HBW.out⟩
       case round =>
        obtain ⟨k,hk,rfl,hown,hB⟩:=hrel
        have hgH:=zpw hown
        by_cases hlt:k<n
        · obtain ⟨b0',off0',hA0,hb0',p0⟩:=RdW.at_ (Rd.below HR.out hB) (show a+k<ws.length by omega)
          cases hA0
          rw[←zcb] at p0
          have HS:=hid (HPS.out k hlt)
          obtain ⟨y,hy⟩:∃ y,wd ws (a+k)=y:=⟨_,rfl⟩
          rw[hy] at p0 HS
          obtain ⟨u0,hu0⟩:∃ u0,((zf4 ws a u n k).flatMap En.cells)[k * 2]? = some u0:=⟨_,List.getElem?_eq_getElem (by rw[HPL.out];omega)⟩
          obtain ⟨u1,hu1⟩:∃ u1,((zf4 ws a u n k).flatMap En.cells)[k * 2+1]? = some u1:=⟨_,List.getElem?_eq_getElem (by rw[HPL.out];omega)⟩
          have d0:=(hown.cellAt (k * 2) (by omega)).trans hu0
          have d1:=(hown.cellAt (k * 2+1) (by omega)).trans hu1
          have e0:=hown.frozenAt (k * 2)
          have e1:=hown.frozenAt (k * 2+1)
          have HOWN:=hid hown
          have hk1:(k:Int)<(n:Int):=by omega
          have hk0:(0:Int)≤(k:Int):=by omega
          have hak:(a:Int)+(k:Int)<(ws.length:Int):=by omega
          have hak0:(0:Int)≤(a:Int)+(k:Int):=by omega
          have hakt:((a:Int)+(k:Int)).toNat=a+k:=by omega
          have hwa:IntKind.i64.wrap ((a:Int)+(k:Int))=(a:Int)+(k:Int):=IntWalk.i64_in _ (by omega)
          have hwu:IntKind.i64.wrap ((u:Int)+(k:Int))=(u:Int)+(k:Int):=IntWalk.i64_in _ (by omega)
          clear hy hu0 hu1 hown
          go_wp2_with fail
          go_roundw
          case rel =>
           refine ⟨k+1,by omega,by go_num,?_,(hB.setCell (p:=⟨w3.heap.size,k * 2,none⟩) hgH _).setCell (p:=⟨w3.heap.size,k * 2+1,none⟩) hgH _⟩
           rw[HS.out,en_set]
           have h5:=(((HOWN.out.stored (k * 2) (.int .i64 ((u:Int)+(k:Int)))).1).stored (k * 2+1) (.int .u64 (y:Int))).1
           rw[show (((u+k:Nat)):Int)=(u:Int)+(k:Int) by omega]
           exact h5
          case measure=>simp[intOf];omega
        · obtain rfl:k=n:=by omega
          have g0:(zf4 ws a u k k)[0]? = some ⟨((u+0:Nat):Int),wd ws (a+0)⟩:=by rw[zgs _ _ _ _ _ _ (by omega),if_pos (by omega)]
          obtain ⟨u1,hu1⟩:∃ u1,((zf4 ws a u k k).flatMap En.cells)[1]? = some u1:=⟨_,List.getElem?_eq_getElem (by rw[HPL.out];omega)⟩
          obtain ⟨u3,hu3⟩:∃ u3,((zf4 ws a u k k).flatMap En.cells)[3]? = some u3:=⟨_,List.getElem?_eq_getElem (by rw[HPL.out];omega)⟩
          have d1:=(hown.cellAt 1 (by omega)).trans hu1
          have d3:=(hown.cellAt 3 (by omega)).trans hu3
          have e1:=hown.frozenAt 1
          have e3:=hown.frozenAt 3
          have hn1i:(1:Int)<(k:Int):=by omega
          have hn0i:(0:Int)<(k:Int):=by omega
          have hrow:(((zf4 ws a u k k).set 0 ⟨(u:Int),hw⟩).set 1 ⟨((u+1:Nat):Int),0⟩).flatMap En.cells=(((zf4 ws a u k k).flatMap En.cells).set 1 (.int .u64 (hw:Int))).set 3 (.int .u64 0):=by
           rw[zAl ((zf4 ws a u k k).set 0 ⟨(u:Int),hw⟩) 1 ⟨((u+1:Nat):Int),wd ws (a+1)⟩ 0 (by rw[List.getElem?_set,if_neg (by omega),zgs _ _ _ _ _ _ (by omega),if_pos (by omega)])]
           rw[show (⟨(u:Int),hw⟩:En)=⟨(⟨((u+0:Nat):Int),wd ws (a+0)⟩:En).a,hw⟩ from rfl,zAl _ 0 _ hw g0]
           rfl
          have HROW:=hid hrow
          have HOWN:=hid hown
          have hlen2:(zix ws a u).length=k:=by rw[HEN.out,List.length_set,List.length_set,zfg]
          have HLEN:=hid hlen2
          clear g0 hu1 hu3 hrow hown hlen2
          go_wp2_with fail
          go_ret2
          have h5:=(((HOWN.out.stored 1 (.int .u64 (hw:Int))).1).stored 3 (.int .u64 0)).1
          rw[←HROW.out,←HEN.out] at h5
          refine ⟨⟨some ⟨w3.heap.size,0,none⟩,k,by rw[HOUT.out.1,HOUT.out.2,HLEN.out];rfl,?_⟩,(hB.setCell (p:=⟨w3.heap.size,1,none⟩) hgH _).setCell (p:=⟨w3.heap.size,3,none⟩) hgH _⟩
          rw[HOUT.out.2,HLEN.out]
          exact h5
 · have HE:=hid (show zex ws f t=zbi ws f t by unfold zex;rw[if_neg h0])
   have hn1:(zbi ws f t != 0)=true:=by rw[bne_iff_ne];exact h0
   have H0:=hid h0
   obtain ⟨r,hr⟩:∃ r,zbi ws f t=r:=⟨_,rfl⟩
   obtain ⟨q,hq⟩:∃ q,(zhn ws f t).length=q:=⟨_,rfl⟩
   rw[hr,hq] at HC
   rw[hr] at hn1 HE H0
   clear h0 hr hq
   go_enter Tryz.func146,Tryz.ntmps146
   go_wp2_with fail
   refine HC.out.mono ?_
   rintro e w1 ⟨⟨A1,c1,rfl,-,-⟩,hB1⟩
   go_wp2_with fail
   go_ret2
   exact ⟨zbv HE.out (zqp HE.out H0.out),hB1⟩
end Go.Proofs.YtpcajamacpbjcaaGreat
namespace Go.Proofs.YtpcajamacpbjcaaGreat
open Lib (hid)
open Go.RowKit
set_option maxRecDepth 100000 in
set_option maxHeartbeats 2000000 in
theorem zIp (A:Option Addr) (ws:List Nat) (c n H:Nat) (w:World) (hn:ws.length=n) (h0:0<n) (hm:n≤1000000) (hr:RdW w H A ws) (hH:H≤w.heap.size) :
  Calls Tryz.prog 70 #[.slice A n c] w fun e w'=>zHe w ws e w':=by
 have HR:=hid (hr.more hH)
 have HN:=hid hn
 have HLN:=hid (zh1 ws)
 obtain ⟨b,off,rfl,hb,-⟩:=RdW.at_ hr (show 0<ws.length by omega)
 have hnil:=fun (W:World)=>Lib.run_eql_slice_nil (P:=Tryz.prog) (w:=W) 22 53 (some ⟨b,off,none⟩) n c 0 0 Tryz.underlying22
 simp only[Option.isNone_some] at hnil
 clear hr hH hn hb
 obtain ⟨i0,hi,hz0,hz1,hz2⟩:=info_parts zpd
 have HI:=hid hi
 have HZ0:=hid hz0
 have HZ1:=hid hz1
 have HZ2:=hid hz2
 clear hi hz0 hz1 hz2
 go_enter Tryz.func70,Tryz.ntmps70
 go_wp2_with (at_builtin;refine zb2 _ (by rfl) _ _ 22 rfl w.heap.size 53 i0 _ 1 8 Tryz.underlying22 HI.out HZ0.out HZ1.out HZ2.out rfl (by decide) (.slice (some ⟨w.heap.size,0,none⟩) 0 0) 0 [] (by rfl) (zjz w _ _ _ (Nat.le_refl _)) w.heap.size (some ⟨b,off,none⟩) n _ (ws.flatMap zaj) (by rfl) (by rw[HLN.out,HN.out];omega) (Rd.alloc HR.out (Nat.le_refl _) _) (zd2 zpi _) (by unfold maxLen;omega) (by omega) (by simp) ?_;intro v1 wa hown1 hg1;have hBa:=zcm ((Below.refl w.heap.size w).alloc (Nat.le_refl _) _) (by simp) (zjz w w.heap.size 53 1 (Nat.le_refl _)) hg1;simp only[Nat.zero_add,List.nil_append] at hown1;obtain ⟨g,c1,rfl⟩:=zl8 hown1 (by omega);have HOWN:=hid hown1;have HBA:=hid hBa;clear hown1 hBa hg1)
 go_ret
 exact ⟨g,c1,by rw[HN.out];rfl,by rw[HN.out];exact HOWN.out,HBA.out⟩
def OwnV (w:World) (xs:List Nat) (e:Ending) (w':World):Prop:=∃ g c,e=.returned (.tuple #[.slice (some ⟨g,0,none⟩) xs.length c,.int .i64 0])∧w'.ownsRow w.heap.size 53 1 (.slice (some ⟨g,0,none⟩) xs.length c) xs.length (xs.flatMap zaj)∧Below w.heap.size w w'
set_option maxRecDepth 100000 in
set_option maxHeartbeats 4000000 in
theorem zDk (A B:Option Addr) (ws:List Nat) (E:List En) (c d n m H:Nat) (w:World) (hn:ws.length=n) (hm:E.length=m) (hs:zah (n:Int)=true) (hm2:m≤32) (hE:∀ e ∈ E,0≤e.a∧e.a<(n:Int)) (hr:RdW w H A ws) (he:RdE w H B E) (hH:H≤w.heap.size) :
  Calls Tryz.prog 53 #[.slice A n c,.slice B m d] w fun e w'=>OwnV w (zag ws E) e w':=by
 subst hm
 obtain ⟨b1,b2,-⟩:=(zad _).1 hs
 have HI:=hid (zbc hs)
 have HR:=hid (hr.more hH)
 have HE:=hid (he.more hH)
 have HN:=hid hn
 have HPL:Hid (∀ k,(zag ws (E.take k)).length=n):=hid fun k=>by rw[zau,hn]
 have HIN:Hid (∀ k (h:k<E.length),0≤E[k].a∧E[k].a<(n:Int)):=hid fun k h=>hE _ (List.getElem_mem h)
 have HST:Hid (∀ k (h:k<E.length),zag ws (E.take (k+1))=(zag ws (E.take k)).set E[k].a.toNat E[k].v):=hid fun k h=>by rw[zB0 h,hn,if_pos (hE _ (List.getElem_mem h))]
 have HCL:=hid (fun W (h:RdW W W.heap.size A ws)=>zIp A ws c n W.heap.size W hn (by omega) (by omega) h (Nat.le_refl _))
 unfold zHe at HCL
 rw[hn] at HCL
 have h32:decide ((32:Int)<(E.length:Int))=false:=by rw[decide_eq_false_iff_not];omega
 clear hr he hH hn hE hs
 go_enter Tryz.func53,Tryz.ntmps53
 go_wp2_with fail
 refine (zay A n c w (by omega)).mono ?_
 rintro e w1 ⟨rfl,rfl⟩
 rw[HI.out]
 go_wp2_with fail
 refine (HCL.out _ HR.out).mono ?_
 rintro e w2 ⟨g,c1,rfl,hown,hB2⟩
 have HOWN:=hid hown
 have HBA:=hid hB2
 clear hown hB2
 go_wp2_with fail
 go_loopw [22] (fun i wr=>∃ k:Nat,k≤E.length∧i=.int .i64 k∧wr.ownsRow w.heap.size 53 1 (.slice (some ⟨g,0,none⟩) n c1) n ((zag ws (E.take k)).flatMap zaj)∧Below w.heap.size w wr) (fun i _=>E.length - (intOf i).toNat)
 case atStart=>exact ⟨0,Nat.zero_le _,rfl,HOWN.out,HBA.out⟩
 case round =>
  obtain ⟨k,hk,rfl,hown,hB⟩:=hrel
  have hz:=hB.size
  have hgH:=zpw hown
  by_cases hlt:k<E.length
  · obtain ⟨b,off,rfl,hb,p0,p1⟩:=RdE.at_ (Rd.below HE.out hB) hlt
    have HS:=hid (HST.out k hlt)
    obtain ⟨g1,g2⟩:=HIN.out k hlt
    obtain ⟨x,hx⟩:∃ x,E[k]=x:=⟨_,rfl⟩
    rw[hx] at p0 p1 HS g1 g2
    obtain ⟨xa,xv⟩:=x
    dsimp only at p0 p1 HS g1 g2
    obtain ⟨a,rfl⟩:=Int.eq_ofNat_of_zero_le g1
    rw[Int.toNat_natCast] at HS
    have hk1:(k:Int)<(E.length:Int):=by omega
    have hk0:(0:Int)≤(k:Int):=by omega
    obtain ⟨cur,hcur⟩:∃ cur,zag ws (E.take k)=cur:=⟨_,rfl⟩
    have hcl:=HPL.out k
    rw[hcur] at HS hown hcl
    have c0:=(hown.cellAt a (by omega)).trans (zq1 cur a (by omega))
    have f0:=hown.frozenAt a
    obtain ⟨u,hu⟩:∃ u,((cur[a]'(by omega):Nat):Int)=u:=⟨_,rfl⟩
    rw[hu] at c0
    have hgw:g<wr.heap.size:=(hown.lt g rfl).2
    have c0':=(World.cell?_alloc_lt wr (.cells #[.int .i64 (a:Int),.int .u64 (xv:Int)] 89) ⟨g,a,none⟩ hgw).trans c0
    have HO:=hid (hown.alloc (.cells #[.int .i64 (a:Int),.int .u64 (xv:Int)] 89))
    have f0':=HO.out.frozenAt a
    have HO0:=hid hown
    clear hx hu hown hcur c0 f0
    go_wp2_with fail
    go_roundw
    case rel =>
     refine ⟨k+1,by omega,by go_num,?_,(hB.setCell (p:=⟨g,a,none⟩) hgH _).alloc (by rw[World.size_setCell];exact hz) _⟩
     rw[HS.out,zsn]
     exact (HO0.out.stored a (.int .u64 (xv:Int))).1.alloc _
    case measure=>simp[intOf];omega
  · rw[List.take_of_length_le (by omega)] at hown
    have hl:=HPL.out E.length
    rw[List.take_length] at hl
    go_wp2_with fail
    go_ret2
    exact ⟨g,c1,by rw[hl];rfl,by rw[hl];exact hown,hB⟩
end Go.Proofs.YtpcajamacpbjcaaGreat
namespace Go.Proofs.YtpcajamacpbjcaaGreat
open Lib (hid)
theorem zom (l:List Bk):(∃ k,k<l.length∧zeq l k∧(gk l k).mark=true)∨zeq l l.length:=by
 have key:∀ n,n≤l.length→(∃ k,k<l.length∧zeq l k∧(gk l k).mark=true)∨zeq l n:=by
  intro n
  induction n with
  | zero=>intro _;exact .inr (zmy l)
  | succ n ih =>
   intro hn
   rcases ih (by omega) with h|h
   · exact .inl h
   · cases hm:(gk l n).mark with
     | true=>exact .inl ⟨n,by omega,h,hm⟩
     | false=>exact .inr (zmo h hm)
 exact key l.length (Nat.le_refl _)
theorem zub (a b:List Bk):zd8 (a++b)=zd8 a++zd8 b:=by unfold zd8;rw[List.filter_append,List.map_append]
theorem zq8 {l:List Bk}:∀ {k},k≤l.length→zeq l k→zd8 (l.take k)=[]:=by
 intro k
 induction k with
 | zero=>intro _ _;rfl
 | succ k ih =>
  intro hk h
  have hl:k<l.length:=by omega
  rw[zqy hl,ih (by omega) (fun j hj=>h j (by omega))]
  have:=h k (by omega)
  rw[zbt l k hl] at this
  simp[this]
theorem zza (b:Bk) (l:List Bk):(zd8 (b :: l)).length=(if b.mark=true then 1 else 0)+(zd8 l).length:=by
 unfold zd8
 cases h:b.mark
 · simp[h]
 · simp[h];omega
theorem zm0 {ws:List Nat} (hs:zah (ws.length:Int)=true) {a:Nat} {l:List Bk} (h1:128≤a) (h2:a≤ws.length) (h3:a % 2=0) (hb:blocks ws a=some l) (hm:0<(zd8 l).length) :
   ∃ (m z:Nat) (l':List Bk),zbj ws (a:Int)=0∧(zhm ws (a:Int)).at_=(m:Int)∧(zhm ws (a:Int)).size=(z:Int)∧a≤m∧2≤z∧m+z≤ws.length∧(m+z) % 2=0∧blocks ws (m+z)=some l'∧(zd8 l').length+1=(zd8 l).length:=by
 have harg:ze0 ws.length (a:Int)=false:=by
   simp only[ze0,Bool.or_eq_false_iff,decide_eq_false_iff_not,bne_eq_false_iff_eq];omega
 obtain ⟨g1,g2⟩:=zci (a:=(a:Int)) hs harg (by rw[Int.toNat_natCast];exact hb)
 rcases zom l with ⟨k,hk,hn,hmk⟩|hn
 · obtain ⟨e1,e2⟩:=zta g1 g2 hk hn hmk
   obtain ⟨m,f1,f2,f3,f4,f5,f6⟩:=zb5 _ _ hb h3 k hk
   have hz:=zav f5
   rw[zbt l k hk] at e1 hmk
   have hst:=zcc f6 f4
   refine ⟨m,szAt ws m,l.drop (k+1),e2,by rw[e1,f1];rfl,by rw[e1,f1];rfl,f3,hz.1,hz.2.2,by omega,?_,?_⟩
   · rw[hst.2.2.2,List.drop_drop]
   · have e:l=l.take k++(l[k] :: l.drop (k+1)):=by rw[←List.drop_eq_getElem_cons hk,List.take_append_drop]
     have:(zd8 l).length=(zd8 (l.take k++(l[k] :: l.drop (k+1)))).length:=by rw[←e]
     rw[this,zub,List.length_append,zq8 (by omega) hn,zza,hmk]
     simp;omega
 · have:=zq8 (Nat.le_refl _) hn
   rw[List.take_length] at this
   rw[this] at hm
   simp at hm
theorem zyq {ws:List Nat} (h:zao ws=0) (hp:¬ wd ws 16<3):zah (ws.length:Int)=true∧(wd ws 16=3∨wd ws 16=4)∧∃ a:Nat,zf7 ws=(a:Int)∧128≤a∧a≤ws.length∧a % 2=0∧∃ l,blocks ws a=some l∧lfN ws=(zd8 l).length:=by
 have h0:=zjw h
 obtain ⟨h1,h2⟩:=zgz h0
 obtain ⟨hs,h3,h4⟩:=zfs h1
 obtain ⟨⟨l0,l1,l2⟩,-⟩:=(zbn ws).1 h3
 have hbd:=zf5 ws hs
 have hN:=zDn h hp
 have fin:∀ a:Nat,zf7 ws=(a:Int)→128≤a→a≤ws.length→a % 2=0→∀ l,blocks ws a=some l→∃ a:Nat,zf7 ws=(a:Int)∧128≤a∧a≤ws.length∧a % 2=0∧∃ l,blocks ws a=some l∧lfN ws=(zd8 l).length:=by
   intro a ha g1 g2 g3 l hl
   refine ⟨a,ha,g1,g2,g3,l,hl,?_⟩
   have harg:ze0 ws.length (a:Int)=false:=by
     simp only[ze0,Bool.or_eq_false_iff,decide_eq_false_iff_not,bne_eq_false_iff_eq];omega
   rw[hN,ha,(zci (a:=(a:Int)) hs harg (by rw[Int.toNat_natCast];exact hl)).2]
 rcases (zcp _ _ _).1 h4 with ⟨p4,i1,i2,i3⟩|⟨p3,i1,i2⟩|⟨p0,-⟩
 · refine ⟨hs,.inr p4,?_⟩
   have i4:=(za7 _).1 i1
   have hr:zbi ws (wd ws 17:Nat) (wd ws 18:Nat)=0:=by
     unfold zao at h
     rw[if_pos h0,if_pos p4] at h
     split at h
     · exact h
     · simp at h
   obtain ⟨-,-,l,hl,-⟩:=zb8 hr
   rw[Int.toNat_natCast] at hl
   exact fin (wd ws 17) (by unfold zf7;rw[if_neg (by omega)]) i4.1 l1 i4.2.2 l hl
 · refine ⟨hs,.inl p3,?_⟩
   have hr:zbi ws 128 128=0:=by
     unfold zao at h
     rwa [if_pos h0,if_neg (by omega),if_pos p3] at h
   obtain ⟨-,-,l,hl,-⟩:=zb8 hr
   have hl':blocks ws 128=some l:=hl
   by_cases y0:wd ws 17=0
   · exact fin 128 (by unfold zf7;rw[if_pos (by omega)];rfl) (by omega) (by omega) (by omega) l hl'
   · have i4:=(za7 _).1 (i2.resolve_left y0)
     have hlf:zf7 ws=((wd ws 17:Nat):Int):=by unfold zf7;rw[if_neg (by omega)]
     have hbt:=h2 p3 y0
     unfold zo1 at hbt
     rw[hl'] at hbt
     have hbt:(l.any (fun b=>b.at_ == ((wd ws 17:Nat):Int)) || wd ws 17 == ws.length)=true:=hbt
     rw[Bool.or_eq_true,List.any_eq_true] at hbt
     rcases hbt with ⟨b,hm,hb⟩|hb
     · obtain ⟨k,hk,rfl⟩:=List.getElem_of_mem hm
       obtain ⟨m,f1,f2,f3,f4,f5,f6⟩:=zb5 _ _ hl' (by omega) k hk
       rw[beq_iff_eq,f1] at hb
       have hmy:m=wd ws 17:=by have:((m:Nat):Int)=((wd ws 17:Nat):Int):=hb;omega
       rw[hmy] at f6
       exact fin (wd ws 17) hlf i4.1 l1 i4.2.2 _ f6
     · rw[beq_iff_eq] at hb
       exact fin (wd ws 17) hlf i4.1 l1 i4.2.2 [] (zaq (by omega))
 · exact absurd p0 hp
def phE (p f t:Nat):List En:=[⟨16,p⟩,⟨17,f⟩,⟨18,t⟩]
theorem zfh {ws:List Nat} (j v:Nat) (l:List En) (h:j<ws.length):zag ws (⟨(j:Int),v⟩ :: l)=zag (ws.set j v) l:=by
 simp only[zag]
 rw[if_pos (by omega),Int.toNat_natCast]
end Go.Proofs.YtpcajamacpbjcaaGreat
namespace Go.Proofs.YtpcajamacpbjcaaGreat
open Lib (hid)
open Go.RowKit
def zg1 (l:List En) (p:Nat):List En:=if 32≤l.length then l.take 31 else ⟨16,p⟩ :: l
def zb3:List En:=[⟨16,4⟩,⟨17,128⟩,⟨18,128⟩]
theorem zfc {ws:List Nat} {a:Nat} (h:zbj ws (a:Int)=0):zah (ws.length:Int)=true∧128≤a∧a % 2=0∧∃ m:Nat,zhm ws (a:Int)=bkAt ws m∧a≤m∧m % 2=0∧2≤szAt ws m∧szAt ws m % 2=0∧m+szAt ws m≤ws.length∧stands ws m=true∧(bkAt ws m).mark=true∧(bkAt ws m).kind=1∧∃ l,blocks ws a=some l∧zca ws (a:Int)=0∧za5 ws (a:Int)=l∧∃ k,k<l.length∧zeq l k∧blocks ws m=some (l.drop k):=by
 have h0:zca ws (a:Int)=0:=by
  by_cases h1:zca ws (a:Int)=0
  · exact h1
  · rw[(zvz rfl h1).2] at h;exact absurd h h1
 have hs:zah (ws.length:Int)=true:=by
  cases hq:zah (ws.length:Int) with
  | true=>rfl
  | false=>rw[zff hq] at h0;cases h0
 have harg:ze0 ws.length (a:Int)=false:=by
  cases hq:ze0 ws.length (a:Int) with
  | false=>rfl
  | true=>rw[zhw hs hq] at h0;cases h0
 have ha:=zl0 harg
 cases hb:blocks ws a with
 | none=>rw[zeh hs harg (by rw[Int.toNat_natCast];exact hb)] at h0;cases h0
 | some l =>
  have hf:=zci (a:=(a:Int)) hs harg (l:=l) (by rw[Int.toNat_natCast];exact hb)
  rcases zom l with ⟨k,hk,hn,hm⟩|hn
  · obtain ⟨e1,-⟩:=zta h0 hf.2 hk hn hm
    obtain ⟨m,f1,f2,f3,f4,f5,f6⟩:=zb5 _ _ hb (by omega) k hk
    have hz:=zav f5
    have hlv:=zKs h0 (k:=k) (by rw[hf.2];exact hk)
    rw[hf.2] at hlv
    rw[zbt l k hk] at e1 hm hlv
    rw[f1] at hm hlv
    rw[hm] at hlv
    simp only[Bool.not_true,Bool.or_false,beq_iff_eq] at hlv
    exact ⟨hs,by omega,by omega,m,by rw[e1,f1],f3,f2,hz.1,hz.2.1,hz.2.2,f5,hm,hlv,l,rfl,h0,hf.2,k,hk,hn,f6⟩
  · rw[(zDr h0 hf.2 hn).2] at h;cases h
def zFq (ws:List Nat):Nat→Nat→Int × List En
 | 0,_=>(0,zb3)
 | f+1,a=>if zbj ws (a:Int)=0 then (if zb0 ws (zhm ws (a:Int)).at_=[] then zFq ws f ((zhm ws (a:Int)).at_+(zhm ws (a:Int)).size).toNat
  else if zdw ws (zhm ws (a:Int)).at_=0 then (0,⟨17,((zhm ws (a:Int)).at_+(zhm ws (a:Int)).size).toNat⟩ :: zct ws (zhm ws (a:Int)).at_)
  else (zdw ws (zhm ws (a:Int)).at_,[])) else (0,zb3)
theorem zBo {ws:List Nat}:∀ {f a g:Nat},ws.length - a<f→ws.length - a<g→zFq ws f a=zFq ws g a:=by
 intro f
 induction f with
 | zero=>intro a g h;omega
 | succ f ih =>
  intro a g h hg
  cases g with
  | zero=>omega
  | succ g =>
   simp only[zFq]
   by_cases h0:zbj ws (a:Int)=0
   · obtain ⟨hs,a1,a2,m,e,m1,m2,m3,m4,m5,-⟩:=zfc h0
     have hn:((zhm ws (a:Int)).at_+(zhm ws (a:Int)).size).toNat=m+szAt ws m:=by rw[e,zaa,zba];omega
     rw[if_pos h0,if_pos h0,hn]
     by_cases hr:zb0 ws (zhm ws (a:Int)).at_=[]
     · rw[if_pos hr,if_pos hr]
       exact ih (by omega) (by omega)
     · rw[if_neg hr,if_neg hr]
   · rw[if_neg h0,if_neg h0]
def zkn (ws:List Nat) (a:Nat):Int × List En:=zFq ws (ws.length+1) a
theorem zi2 {ws:List Nat} {a:Nat} (h:zbj ws (a:Int)≠0):zkn ws a=(0,zb3):=by
 unfold zkn
 rw[zFq,if_neg h]
theorem zkk {ws:List Nat} {a m:Nat} (h:zbj ws (a:Int)=0) (e:zhm ws (a:Int)=bkAt ws m) (h2:zb0 ws (m:Int)=[]):zkn ws a=zkn ws (m+szAt ws m):=by
 obtain ⟨hs,a1,a2,m',e',m1,m2,m3,m4,m5,-⟩:=zfc h
 have hmm:m'=m:=by have:=congrArg Bk.at_ (e.symm.trans e');rw[zaa,zaa] at this;omega
 subst hmm
 unfold zkn
 rw[zFq,if_pos h,e,zaa,if_pos h2,zba,show (((m':Int)+((szAt ws m':Nat):Int)).toNat)=m'+szAt ws m' by omega]
 exact zBo (by omega) (by omega)
theorem zu8 {ws:List Nat} {a m:Nat} (h:zbj ws (a:Int)=0) (e:zhm ws (a:Int)=bkAt ws m) (h2:zb0 ws (m:Int)≠[]) (h3:zdw ws (m:Int)≠0):zkn ws a=(zdw ws (m:Int),[]):=by
 unfold zkn
 rw[zFq,if_pos h,e,zaa,if_neg h2,if_neg h3]
theorem zps {ws:List Nat} {a m:Nat} (h:zbj ws (a:Int)=0) (e:zhm ws (a:Int)=bkAt ws m) (h2:zb0 ws (m:Int)≠[]) (h3:zdw ws (m:Int)=0):zkn ws a=(0,⟨17,m+szAt ws m⟩ :: zct ws (m:Int)):=by
 unfold zkn
 rw[zFq,if_pos h,e,zaa,if_neg h2,if_pos h3,zba,show (((m:Int)+((szAt ws m:Nat):Int)).toNat)=m+szAt ws m by omega]
def zdg (ws:List Nat):Int × List En:=if wd ws 17=0 then (if zey ws=0 then (0,⟨17,128⟩ :: zec ws) else (zey ws,[])) else zkn ws (wd ws 17)
def zes (ws:List Nat):Int × List En:=if zbj ws ((wd ws 17:Nat):Int)=0 then
 (if zex ws (zhm ws ((wd ws 17:Nat):Int)).at_ ((wd ws 18:Nat):Int)=0 then (0,⟨17,((zhm ws ((wd ws 17:Nat):Int)).at_+(zhm ws ((wd ws 17:Nat):Int)).size).toNat⟩ :: ⟨18,(((wd ws 18:Nat):Int)+(zhm ws ((wd ws 17:Nat):Int)).size).toNat⟩ :: zi3 ws (zhm ws ((wd ws 17:Nat):Int)).at_ ((wd ws 18:Nat):Int))
 else (zex ws (zhm ws ((wd ws 17:Nat):Int)).at_ ((wd ws 18:Nat):Int),[])) else (6,[])
noncomputable def zac (ws:List Nat):Int × List En:=if zao ws=0 then
 (if wd ws 16=1 then (if zap ws=0 then (0,zg1 (za4 ws) 2) else (zap ws,[]))
 else if wd ws 16=2 then (if zae ws=0 then (0,zg1 (za0 ws) 3) else (zae ws,[]))
 else if wd ws 16=3 then zdg ws
 else if wd ws 16=4 then zes ws else (6,[])) else (zao ws,[])
theorem zcd {l:List En} {p:Nat} (h:32≤l.length):zg1 l p=l.take 31:=by unfold zg1;rw[if_pos h]
theorem zhh {l:List En} {p:Nat} (h:¬ 32≤l.length):zg1 l p=⟨16,p⟩ :: l:=by unfold zg1;rw[if_neg h]
end Go.Proofs.YtpcajamacpbjcaaGreat
namespace Go.Proofs.YtpcajamacpbjcaaGreat
open Lib (hid)
open Go.RowKit
theorem zhg {x:Nat} (h:zar x=true) (hk:(zaf x).kind=1) (m:Bool):zar (zf1 x m)=true∧zaf (zf1 x m)={ zaf x with mark:=m }∧znw x m=0∧zf1 x m<18446744073709551616:=by
 have h1:zhs (zaf x)=true:=by
  unfold zar at h
  simp only[Bool.and_eq_true] at h
  exact h.1
 have h2:zhs (zg0 x m)=true:=by
  have h3:=(zbo _).1 h1
  rw[zbo]
  unfold zg0
  dsimp only
  refine ⟨h3.1,.inl ?_⟩
  rcases h3.2 with h4|h4
  · exact h4
  · rw[hk] at h4;exact absurd h4.1 (by decide)
 have hv:zf1 x m=zcg (zg0 x m):=by unfold zf1 zht;rw[if_pos h,if_pos h2]
 refine ⟨by rw[hv];exact ziq h2,?_,by unfold znw;rw[if_pos h];exact zg7 h2,by rw[hv];exact zqj h2⟩
 rw[hv,ziu h2]
 rfl
theorem zm3 {x:Nat} (h:zar x=true):2048<x:=by
 unfold zar at h
 simp only[Bool.and_eq_true] at h
 have h3:=(zbo _).1 h.1
 have h4:(zaf x).size=((x / 65536 % 65536:Nat):Int):=rfl
 rw[h4] at h3
 omega
structure Rm (ws xs:List Nat):Prop where
 len:xs.length=ws.length
 at_:∀ i,wd xs i=wd ws i∨(128≤i∧i % 2=0∧zar (wd ws i)=true∧(zaf (wd ws i)).kind=1∧∃ m,wd xs i=zf1 (wd ws i) m)
section
variable {ws xs:List Nat}
theorem Rm.low (h:Rm ws xs) {i:Nat} (hi:i<128):wd xs i=wd ws i:=by
 rcases h.at_ i with h1|h1
 · exact h1
 · omega
theorem Rm.odd (h:Rm ws xs) {i:Nat} (hi:i % 2=1):wd xs i=wd ws i:=by
 rcases h.at_ i with h1|h1
 · exact h1
 · omega
theorem Rm.sp (h:Rm ws xs) (i:Nat):zar (wd xs i)=zar (wd ws i):=by
 rcases h.at_ i with h1|⟨-,-,h3,h4,m,h5⟩
 · rw[h1]
 · rw[h5,h3,(zhg h3 h4 m).1]
def zrh (xs:List Nat) (i:Nat):Bool:=(zaf (wd xs i)).mark
theorem Rm.raw (h:Rm ws xs) (i:Nat):zaf (wd xs i)={ zaf (wd ws i) with mark:=zrh xs i }:=by
 unfold zrh
 rcases h.at_ i with h1|⟨-,-,h3,h4,m,h5⟩
 · rw[h1]
 · rw[h5,(zhg h3 h4 m).2.1]
theorem Rm.sz (h:Rm ws xs) (i:Nat):(zaf (wd xs i)).size=(zaf (wd ws i)).size:=by rw[h.raw i]
theorem Rm.szAt (h:Rm ws xs) (i:Nat):szAt xs i=szAt ws i:=by
 have h1:=h.sz i
 have e:∀ w,(zaf w).size=((w / 65536 % 65536:Nat):Int):=fun _=>rfl
 rw[e,e] at h1
 unfold Proofs.YtpcajamacpbjcaaGreat.szAt
 exact Int.ofNat.inj h1
theorem Rm.stands (h:Rm ws xs) (i:Nat):stands xs i=stands ws i:=by
 unfold Proofs.YtpcajamacpbjcaaGreat.stands
 rw[h.sp,h.sz,h.len]
def mkB (xs:List Nat) (b:Bk):Bk:={ b with mark:=zrh xs b.at_.toNat }
theorem Rm.bkAt (h:Rm ws xs) {i:Nat} (hi:i % 2=0):bkAt xs i=mkB xs (bkAt ws i):=by
 unfold mkB
 have h1:(Proofs.YtpcajamacpbjcaaGreat.bkAt ws i).at_.toNat=i:=by rw[zaa,Int.toNat_natCast]
 rw[h1]
 unfold Proofs.YtpcajamacpbjcaaGreat.bkAt
 rw[h.raw i,h.odd (i:=i+1) (by omega)]
theorem Rm.blocks (h:Rm ws xs):∀ i l,blocks ws i=some l→i % 2=0→blocks xs i=some (l.map (mkB xs)):=by
 refine zdb (fun i l=>i % 2=0→Proofs.YtpcajamacpbjcaaGreat.blocks xs i=some (l.map (mkB xs))) (fun i hi _ => ?_) (fun i l hi hs hb ih h2 => ?_)
 · exact zaq (by rw[h.len];exact hi)
 · have hsz:=zav hs
   have ih:=ih (by omega)
   rw[zaz (by rw[h.len];exact hi) (by rw[h.stands];exact hs),h.szAt,ih,h.bkAt h2]
   rfl
theorem zC7 (n:Nat) (l:List Bk):zqs n (l.map (mkB xs))=zqs n l:=by
 unfold zqs
 rw[List.foldl_map]
 rfl
theorem zJx (h:Rm ws xs) {b:Bk} (hb:b.kind=1→tyA b+1<128):zds xs (mkB xs b)=zds ws b:=by
 have e:=zDt (ws:=ws) (xs:=xs) (fun j hj=>h.low hj) hb
 by_cases hk:b.kind=1
 · have h2:=hb hk
   unfold zds zc2
   show (b.kind != 1 || (zb7 (wd xs (tyA b)) (wd xs (tyA b+1)) && b.size == ((za8 (wd xs (tyA b) % 256):Nat):Int)))=_
   rw[h.low (by omega),h.low (by omega)]
 · rw[zd3 hk,zd3 (b:=mkB xs b) hk]
theorem Rm.heap (h:Rm ws xs) (h0:zae ws=0):zae xs=0∧zab xs=(zab ws).map (mkB xs):=by
 obtain ⟨h1,l,h2,h3,h4⟩:=zam h0
 have hb:=h.blocks 128 l h2 (by omega)
 rw[h4]
 refine ze7 (by rw[h.len];exact h1) hb ?_
 rw[List.all_map,List.all_eq_true]
 rw[List.all_eq_true] at h3
 intro b hb2
 show zds xs (mkB xs b)=true
 rw[zJx h (zgo h2 (by omega) b hb2)]
 exact h3 b hb2
theorem Rm.tb (h:Rm ws xs) (h0:zae ws=0) (a:Nat):tb xs a=tb ws a:=by
 unfold Proofs.YtpcajamacpbjcaaGreat.tb
 rw[(h.heap h0).2,h.len,zC7]
theorem Rm.slAt (h:Rm ws xs) {i:Nat} (hi:i<16):slAt xs i=slAt ws i:=by
 unfold Proofs.YtpcajamacpbjcaaGreat.slAt
 rw[h.low (by omega)]
theorem Rm.slsOk (h:Rm ws xs):slsOk xs=slsOk ws:=by
 rw[Bool.eq_iff_iff,zb9,zb9]
 unfold znx
 constructor
 · intro h1 i hi;rw[←h.slAt hi];exact h1 i hi
 · intro h1 i hi;rw[h.slAt hi];exact h1 i hi
theorem zkx {a:Nat} (h:zep ws a):(zaf (wd ws a)).typ.toNat<8:=by
 have h7:=(zbo _).1 (ze4 h.2.2.2.1)
 have h5:=h.2.2.2.2.1
 omega
theorem Rm.flds (h:Rm ws xs) (h0:zae ws=0) {a:Nat} (ha:Proofs.YtpcajamacpbjcaaGreat.tb ws a≠0):flds xs a=flds ws a:=by
 obtain ⟨ho,-⟩:=zhp h0 ha
 have:=zkx ho
 unfold Proofs.YtpcajamacpbjcaaGreat.flds
 rw[h.raw a]
 dsimp only
 rw[h.low (by omega),h.low (by omega)]
theorem Rm.ref (h:Rm ws xs) (hg:zst ws) (h0:zae ws=0) {a i:Nat} (ha:Rch ws a) (ht:Proofs.YtpcajamacpbjcaaGreat.tb ws a≠0) (hf:(Proofs.YtpcajamacpbjcaaGreat.flds ws a)[i]? = some 3):wd xs (a+2+i)=wd ws (a+2+i):=by
 rcases h.at_ (a+2+i) with h1|⟨-,-,h3,-⟩
 · exact h1
 · exfalso
   have hb:=zm3 h3
   have h4:=hg _ (Rch.ref a i ha ht hf (by omega))
   rw[Nat.min_eq_right (by omega)] at h4
   have:=zn4 h4
   have:=(zf5 ws (zam h0).1).2.1
   omega
theorem Rm.rch (h:Rm ws xs) (hg:zst ws) (h0:zae ws=0) (a:Nat):Rch xs a↔Rch ws a:=by
 constructor
 · intro ha
   induction ha with
   | slot i hi hu=>rw[h.slAt hi] at hu ⊢;exact Rch.slot i hi hu
   | ref a i ha ht hf hv ih =>
    rw[h.tb h0] at ht
    rw[h.flds h0 ht] at hf
    rw[h.ref hg h0 ih ht hf] at hv ⊢
    exact Rch.ref a i ih ht hf hv
 · intro ha
   induction ha with
   | slot i hi hu=>rw[←h.slAt hi] at hu ⊢;exact Rch.slot i hi hu
   | ref a i ha ht hf hv ih =>
    rw[←h.ref hg h0 ha ht hf] at hv ⊢
    exact Rch.ref a i ih (by rw[h.tb h0];exact ht) (by rw[h.flds h0 ht];exact hf) hv
theorem zas (h:zap ws=0):zae ws=0∧slsOk ws=true∧zst ws:=by
 unfold zap at h
 by_cases h1:zae ws=0
 · rw[if_pos h1] at h
   by_cases h2:Proofs.YtpcajamacpbjcaaGreat.slsOk ws=true
   · rw[if_pos h2] at h
     by_cases h3:zst ws
     · exact ⟨h1,h2,h3⟩
     · rw[if_neg h3] at h;cases h
   · rw[if_neg h2] at h;cases h
 · rw[if_neg h1] at h;exact absurd h h1
theorem Rm.same (h:Rm ws xs) (h0:zap ws=0):zap xs=0∧za3 xs=za3 ws∧seenL xs=seenL ws∧zae xs=0∧zab xs=(zab ws).map (mkB xs):=by
 obtain ⟨h1,h2,h3⟩:=zas h0
 have hr:=h.rch h3 h1
 have hh:=h.heap h1
 have hg:zst xs:=fun a ha=>by rw[h.tb h1];exact h3 a ((hr a).1 ha)
 have he:zap xs=0:=zEb hh.1 (by rw[h.slsOk];exact h2) hg
 have hs:seenL xs=seenL ws:=by
  unfold seenL
  rw[h.len]
  refine List.map_congr_left fun a _ => ?_
  exact decide_eq_decide.2 (hr a)
 refine ⟨he,?_,hs,hh⟩
 rw[zde he,zde h0,hs,h.len]
end
end Go.Proofs.YtpcajamacpbjcaaGreat
namespace Go.Proofs.YtpcajamacpbjcaaGreat
open Lib (hid)
open Go.RowKit
theorem zAp:∀ {a b:List Int},a.Pairwise (· < ·)→b.Pairwise (· < ·)→(∀ x,x ∈ a↔x ∈ b)→a=b:=by
 intro a
 induction a with
 | nil =>
  intro b _ _ h
  cases b with
  | nil=>rfl
  | cons y b=>exact absurd ((h y).2 (by simp)) (by simp)
 | cons x a ih =>
  intro b ha hb h
  cases b with
  | nil=>exact absurd ((h x).1 (by simp)) (by simp)
  | cons y b =>
   rw[List.pairwise_cons] at ha hb
   have hxy:x=y:=by
     have h1:=(h x).1 (by simp)
     have h2:=(h y).2 (by simp)
     rw[List.mem_cons] at h1 h2
     rcases h1 with h1|h1
     · exact h1
     · rcases h2 with h2|h2
       · exact h2.symm
       · have:=hb.1 _ h1;have:=ha.1 _ h2;omega
   subst hxy
   rw[ih ha.2 hb.2 (fun z => ?_)]
   have hz:=h z
   rw[List.mem_cons,List.mem_cons] at hz
   constructor
   · intro h1
     have:=ha.1 _ h1
     rcases hz.1 (.inr h1) with h2|h2
     · omega
     · exact h2
   · intro h1
     have:=hb.1 _ h1
     rcases hz.2 (.inr h1) with h2|h2
     · omega
     · exact h2
theorem zdu (l:List En):∀ ws:List Nat,l.Pairwise (fun a b=>a.a<b.a)→∀ e ∈ l,0≤e.a→e.a<(ws.length:Int)→wd (zag ws l) e.a.toNat=e.v:=by
 induction l with
 | nil=>intro ws _ e he;simp at he
 | cons x l ih =>
  intro ws hp e he h0 h1
  rw[List.pairwise_cons] at hp
  simp only[zag]
  rcases List.mem_cons.1 he with rfl|he
  · rw[za9 l _ _ (fun y hy=>by have:=hp.1 y hy;omega),if_pos ⟨h0,h1⟩]
    unfold wd
    rw[List.getElem?_set_self (by omega)]
    rfl
  · refine ih _ hp.2 e he h0 ?_
    split
    · rw[List.length_set];exact h1
    · exact h1
theorem zko {ws:List Nat}:∀ i l,blocks ws i=some l→(∀ b ∈ l,(i:Int)≤b.at_)∧l.Pairwise (fun a b=>a.at_<b.at_):=by
 refine zdb _ (fun i _=>⟨fun b h=>by simp at h,List.Pairwise.nil⟩) (fun i l hi hs hb ih => ?_)
 have hsz:=zav hs
 refine ⟨fun b h => ?_,List.Pairwise.cons (fun b h => ?_) ih.2⟩
 · rcases List.mem_cons.1 h with rfl|h
   · rw[zaa];omega
   · have:=ih.1 b h;omega
 · have:=ih.1 b h
   rw[zaa];omega
theorem zb1 {ws:List Nat} (h:zae ws=0):(∀ b ∈ zab ws,∃ a:Nat,b=bkAt ws a∧128≤a∧a % 2=0∧a<ws.length∧stands ws a=true)∧(zab ws).Pairwise (fun a b=>a.at_<b.at_):=by
 obtain ⟨h1,l,h2,h3,h4⟩:=zam h
 rw[h4]
 refine ⟨fun b hb => ?_,(zko _ _ h2).2⟩
 obtain ⟨k,hk,rfl⟩:=List.getElem_of_mem hb
 obtain ⟨a,e1,e2,e3,e4,e5,-⟩:=zb5 _ _ h2 (by omega) k hk
 exact ⟨a,e1,by omega,e2,e4,e5⟩
theorem zqf {ws:List Nat} (h:zap ws=0) {a:Nat} (ha:Rch ws a):∃ b ∈ zab ws,b=bkAt ws a∧b.kind=1∧zep ws a:=by
 obtain ⟨h1,h2,h3⟩:=zas h
 obtain ⟨ho,-⟩:=zhp h1 (h3 a ha)
 obtain ⟨k,hk,e,-⟩:=ho.2.2.2.2.2.2
 exact ⟨_,List.getElem_mem hk,e,by rw[e];exact ho.2.2.2.2.1,ho⟩
noncomputable def zd6 (ws:List Nat) (b:Bk):Bool:=(seenL ws)[b.at_.toNat]?.getD false
theorem zem {ws:List Nat} {a:Nat} (h:a<ws.length):zd6 ws (bkAt ws a)=true↔Rch ws a:=by
 unfold zd6
 rw[zaa,Int.toNat_natCast]
 exact zj2 h
theorem zD4 {ws:List Nat} (h:zap ws=0) {b:Bk} (hb:b ∈ zab ws) (hk:zee (seenL ws) b=false):b.kind=1:=by
 obtain ⟨h1,-,-⟩:=zas h
 obtain ⟨a,rfl,a1,a2,a3,a4⟩:=(zb1 h1).1 b hb
 cases hm:(bkAt ws a).mark with
 | true =>
  obtain ⟨_,l,g2,-,g4⟩:=zam h1
  rw[g4] at hb
  exact zh3 g2 (by omega) _ hb hm
 | false =>
  have hs:zd6 ws (bkAt ws a)=true:=by
   unfold zee at hk
   rw[hm] at hk
   unfold zd6
   cases hq:(seenL ws)[(bkAt ws a).at_.toNat]?.getD false with
   | true=>rfl
   | false=>rw[hq] at hk;exact absurd hk (by decide)
  obtain ⟨b',-,e,hk',-⟩:=zqf h ((zem a3).1 hs)
  rw[e] at hk'
  exact hk'
theorem zdz {ws:List Nat} (h:zap ws=0):za4 ws=(zk5 (seenL ws) (zab ws)).map (zz4 ws (seenL ws)):=by
 unfold za4
 rw[if_pos h]
theorem zdo {ws:List Nat} (h:zap ws=0) {e:En} (he:e ∈ za4 ws):∃ a:Nat,bkAt ws a ∈ zab ws∧128≤a∧a % 2=0∧a<ws.length∧zar (wd ws a)=true∧(zaf (wd ws a)).kind=1∧e=⟨(a:Int),zf1 (wd ws a) (zd6 ws (bkAt ws a))⟩∧zee (seenL ws) (bkAt ws a)=false:=by
 obtain ⟨h1,-,-⟩:=zas h
 rw[zdz h,List.mem_map] at he
 obtain ⟨b,hb,rfl⟩:=he
 have hm:=zvu hb
 have hk:zee (seenL ws) b=false:=by
  unfold zk5 at hb
  have:=(List.mem_filter.1 hb).2
  simpa using this
 have hkind:=zD4 h hm hk
 obtain ⟨a,rfl,a1,a2,a3,a4⟩:=(zb1 h1).1 b hm
 refine ⟨a,hm,a1,a2,a3,?_,hkind,rfl,hk⟩
 unfold stands at a4
 simp only[Bool.and_eq_true] at a4
 exact a4.1
theorem zdq {ws:List Nat} (h:zap ws=0):(za4 ws).Pairwise (fun a b=>a.a<b.a):=by
 obtain ⟨h1,-,-⟩:=zas h
 rw[zdz h,List.pairwise_map]
 exact List.Pairwise.filter _ (zb1 h1).2
theorem zo6 {ws:List Nat} (h:zap ws=0):∀ e ∈ za4 ws,e.v<18446744073709551616:=by
 intro e he
 obtain ⟨a,-,-,-,-,g1,g2,rfl,-⟩:=zdo h he
 exact (zhg g1 g2 _).2.2.2
theorem zAj {ws:List Nat} (h:zap ws=0):Rm ws (zag ws (za4 ws)):=by
 refine ⟨zau _ _,fun i => ?_⟩
 by_cases hi:∃ e ∈ za4 ws,e.a=(i:Int)
 · obtain ⟨e,he,hei⟩:=hi
   obtain ⟨a,-,a1,a2,a3,g1,g2,rfl,-⟩:=zdo h he
   have hai:a=i:=by dsimp only at hei;omega
   subst hai
   refine .inr ⟨a1,a2,g1,g2,zd6 ws (bkAt ws a),?_⟩
   have:=zdu (za4 ws) ws (zdq h) _ he (by dsimp only;omega) (by dsimp only;omega)
   dsimp only at this
   rw[Int.toNat_natCast] at this
   exact this
 · exact .inl (za9 _ _ _ (fun e he h2=>hi ⟨e,he,h2⟩))
theorem zka {ws:List Nat} (h:zap ws=0) {b:Bk} (hb:b ∈ zab ws):(mkB (zag ws (za4 ws)) b).mark=zd6 ws b:=by
 obtain ⟨h1,-,-⟩:=zas h
 obtain ⟨a,rfl,a1,a2,a3,a4⟩:=(zb1 h1).1 b hb
 show zrh _ (bkAt ws a).at_.toNat=_
 rw[zaa,Int.toNat_natCast]
 cases hk:zee (seenL ws) (bkAt ws a) with
 | false =>
  have he:zz4 ws (seenL ws) (bkAt ws a) ∈ za4 ws:=by
   rw[zdz h,List.mem_map]
   refine ⟨_,?_,rfl⟩
   unfold zk5
   rw[List.mem_filter]
   exact ⟨hb,by rw[hk];rfl⟩
  obtain ⟨a',-,b1,b2,b3,g1,g2,e,-⟩:=zdo h he
  have e1:=congrArg En.a e
  have:a'=a:=by
   have:((bkAt ws a).at_:Int)=(a':Int):=e1
   rw[zaa] at this;omega
  subst this
  have:=zdu (za4 ws) ws (zdq h) _ he (by rw[e];dsimp only;omega) (by rw[e];dsimp only;omega)
  rw[e] at this
  dsimp only at this
  rw[Int.toNat_natCast] at this
  unfold zrh
  rw[this,(zhg g1 g2 _).2.1]
 | true =>
  have hw:wd (zag ws (za4 ws)) a=wd ws a:=za9 _ _ _ (fun e he h2=>by
   obtain ⟨a',hm,b1,b2,b3,g1,g2,rfl,hk'⟩:=zdo h he
   have:a'=a:=by dsimp only at h2;omega
   subst this
   rw[hk] at hk';cases hk')
  unfold zrh
  rw[hw]
  unfold zee at hk
  exact beq_iff_eq.1 hk
theorem zHi {l:List Bk} (h:l.Pairwise (fun a b=>a.at_<b.at_)):(zd8 l).Pairwise (· < ·):=by
 unfold zd8
 rw[List.pairwise_map]
 exact List.Pairwise.filter _ h
theorem zC8 {l:List Bk} {xs:List Nat} (h:l.Pairwise (fun a b=>a.at_<b.at_)):(l.map (mkB xs)).Pairwise (fun a b=>a.at_<b.at_):=by
 rw[List.pairwise_map]
 exact h
theorem zd5 {ws:List Nat} (h:zap ws=0) (x:Int):x ∈ za3 ws↔∃ a:Nat,x=(a:Int)∧a<ws.length∧Rch ws a:=by
 rw[zde h]
 unfold zfx
 rw[List.mem_map]
 constructor
 · rintro ⟨a,ha,rfl⟩
   rw[List.mem_filter,List.mem_range] at ha
   exact ⟨a,rfl,ha.1,(zj2 ha.1).1 ha.2⟩
 · rintro ⟨a,rfl,h1,h2⟩
   exact ⟨a,List.mem_filter.2 ⟨List.mem_range.2 h1,(zj2 h1).2 h2⟩,rfl⟩
theorem zjy {ws:List Nat} (h:zap ws=0):(za3 ws).Pairwise (· < ·):=by
 rw[zde h]
 unfold zfx
 rw[List.pairwise_map]
 refine List.Pairwise.filter _ ?_
 refine List.Pairwise.imp (R:=(· < ·)) (fun {a b} hab => ?_) List.pairwise_lt_range
 omega
theorem zE3 {ws:List Nat} (h:zap ws=0):zd8 ((zab ws).map (mkB (zag ws (za4 ws))))=za3 ws:=by
 obtain ⟨h1,-,h3⟩:=zas h
 have hrow:=zb1 h1
 refine zAp (zHi (zC8 hrow.2)) (zjy h) fun x => ?_
 rw[zd5 h]
 unfold zd8
 rw[List.mem_map]
 constructor
 · rintro ⟨c,hc,rfl⟩
   rw[List.mem_filter,List.mem_map] at hc
   obtain ⟨⟨b,hb,rfl⟩,hm⟩:=hc
   rw[zka h hb] at hm
   obtain ⟨a,rfl,a1,a2,a3,a4⟩:=hrow.1 b hb
   exact ⟨a,zaa ws a,a3,(zem a3).1 hm⟩
 · rintro ⟨a,rfl,ha,hr⟩
   obtain ⟨b,hb,rfl,-,-⟩:=zqf h hr
   refine ⟨mkB (zag ws (za4 ws)) (bkAt ws a),?_,zaa ws a⟩
   rw[List.mem_filter]
   refine ⟨List.mem_map_of_mem hb,?_⟩
   rw[zka h hb]
   exact (zem ha).2 hr
theorem zqd {ws:List Nat} (h:zap ws=0):(∀ (i:Nat) (x:En),(za4 ws)[i]? = some x→128≤x.a∧x.a<(ws.length:Int))∧∀ (i:Nat) (x y:En),(za4 ws)[i]? = some x→(za4 ws)[i+1]? = some y→x.a<y.a:=by
 refine ⟨fun i x hx => ?_,fun i x y hx hy => ?_⟩
 · obtain ⟨a,-,a1,-,a3,-,-,rfl,-⟩:=zdo h (List.mem_of_getElem? hx)
   dsimp only;omega
 · have h2:=zdq h
   rw[List.pairwise_iff_getElem] at h2
   obtain ⟨h3,e3⟩:=List.getElem?_eq_some_iff.1 hx
   obtain ⟨h4,e4⟩:=List.getElem?_eq_some_iff.1 hy
   rw[←e3,←e4]
   exact h2 i (i+1) h3 h4 (by omega)
end Go.Proofs.YtpcajamacpbjcaaGreat
namespace Go.Proofs.YtpcajamacpbjcaaGreat
open Lib (hid)
open Go.RowKit
theorem zg8 (ws:List Nat) (a u:Nat):(zix ws a u).length=szAt ws a:=by simp[zix]
theorem zFn (l:List Nat):∀ (ws:List Nat) (t:Nat),t+l.length≤ws.length→zag ws ((List.range l.length).map fun j=>(⟨((t+j:Nat):Int),l[j]?.getD 0⟩:En))=zel ws t l:=by
 induction l with
 | nil=>intro ws t _;rfl
 | cons v l ih =>
  intro ws t h
  simp only[List.length_cons] at h
  rw[List.length_cons,List.range_succ_eq_map,List.map_cons,List.map_map]
  simp only[zag,zel,Nat.add_zero]
  rw[if_pos (by omega),Int.toNat_natCast,List.getElem?_cons_zero,Option.getD_some,←ih _ (t+1) (by rw[List.length_set];omega)]
  congr 1
  apply List.map_congr_left
  intro j _
  simp only[Function.comp]
  rw[show t+Nat.succ j=t+1+j by omega]
  simp
theorem zz8 {ws:List Nat} {a u:Nat} (h:u+szAt ws a≤ws.length):zag ws (zix ws a u)=zel ws u (zdl ws a):=by
 rw[←zFn _ _ _ (by rw[zfu];exact h),zfu]
 congr 1
 unfold zix
 apply List.map_congr_left
 intro j hj
 rw[ziz _ _ _ (List.mem_range.1 hj)];rfl
theorem ztj {ws:List Nat} {a u:Nat} (ho:∀ x ∈ ws,x<18446744073709551616) (h:zhs { zaf (wd ws a) with mark:=false }=true):∀ e ∈ zix ws a u,e.v<18446744073709551616:=by
 intro e he
 simp only[zix,List.mem_map] at he
 obtain ⟨j,-,rfl⟩:=he
 dsimp only
 split
 · exact zqj h
 · split
   · omega
   · exact ze6 ho _
theorem zf2 {ws:List Nat} {a u k:Nat} (h:k<(zix ws a u).length):((zix ws a u)[k]).a=((u+k:Nat):Int):=by simp[zix]
end Go.Proofs.YtpcajamacpbjcaaGreat
namespace Go.Proofs.YtpcajamacpbjcaaGreat
open Lib (hid)
open Go.RowKit
theorem zyx:∀ {l:List Bk} {s:Int},(∀ b ∈ l,0≤b.size)→s≤zat l s:=by
 intro l
 induction l with
 | nil=>intro s _;exact Int.le_refl _
 | cons b l ih =>
  intro s h
  have h1:=h b (by simp)
  simp only[zat]
  split
  · have:=ih (s:=s+b.size) (fun c hc=>h c (by simp[hc]));omega
  · exact ih (fun c hc=>h c (by simp[hc]))
theorem ztz:∀ {l:List Bk} {s:Int},0≤s→(∀ b ∈ l,0≤b.size)→∀ e ∈ za2 l s,(e.v:Int)≤zat l s:=by
 intro l
 induction l with
 | nil=>intro s _ _ e h;simp[za2] at h
 | cons b l ih =>
  intro s hs h e he
  have h1:=h b (by simp)
  have hl:∀ c ∈ l,0≤c.size:=fun c hc=>h c (by simp[hc])
  have hns:s≤zeo b s:=by unfold zeo;split <;> omega
  have hge:=zyx (l:=l) (s:=zeo b s) hl
  have hen:zat (b :: l) s=zat l (zeo b s):=by simp only[zat,zeo];split <;> rfl
  rw[hen]
  simp only[za2,List.mem_append] at he
  rcases he with he|he
  · split at he
    · simp only[List.mem_cons,List.not_mem_nil,or_false] at he
      subst he
      show ((zbp b s:Nat):Int)≤_
      unfold zbp
      split <;> omega
    · simp at he
  · exact ih (by omega) hl e he
theorem zvc {x:List Nat} (h:zae x=0):(za0 x).length≤1024∧∀ e ∈ za0 x,e.v<18446744073709551616:=by
 have hw:za0 x=za2 (zab x) 128:=by unfold za0;rw[if_pos h]
 rw[hw]
 refine ⟨Nat.le_trans (zmu _ _) (zib x),fun e he => ?_⟩
 obtain ⟨hre,hs1,hs2,hs3⟩:=zei (zfi h).2.2.1
 have h1:=ztz (l:=zab x) (s:=128) (by omega) (fun b hb=>by
  obtain ⟨i,hi,rfl⟩:=List.getElem_of_mem hb
  have:=zwc (zfi h).2.2.1 hi;omega) e he
 have h2:=zj0 hre (Nat.le_refl _) hs1 hs2
 rw[List.take_length] at h2
 omega
end Go.Proofs.YtpcajamacpbjcaaGreat
namespace Go.Proofs.YtpcajamacpbjcaaGreat
open Lib (hid)
open Go.RowKit
structure Small (n:Nat) (E:List En):Prop where
 pos:1≤E.length
 le:E.length≤32
 inc:E.Pairwise (fun a b=>a.a<b.a)
 ins:∀ e ∈ E,(16≤e.a∧e.a<19∨112≤e.a)∧e.a<(n:Int)
 val:∀ e ∈ E,e.v<18446744073709551616
theorem zBb {l:List En} (h:l.Pairwise (fun a b=>a.a<b.a)) (k:Nat):(l.take k).Pairwise (fun a b=>a.a<b.a):=h.sublist (List.take_sublist k l)
theorem zDa {n p:Nat} {l:List En} (hn:256≤n) (hp:p<4) (h1:l.Pairwise (fun a b=>a.a<b.a)) (h2:∀ e ∈ l,128≤e.a∧e.a<(n:Int)) (h3:∀ e ∈ l,e.v<18446744073709551616):Small n (zg1 l p):=by
 by_cases h:32≤l.length
 · rw[zcd h]
   refine ⟨by rw[List.length_take];omega,by rw[List.length_take];omega,zBb h1 31,fun e he => ?_,fun e he=>h3 e (List.mem_of_mem_take he)⟩
   have:=h2 e (List.mem_of_mem_take he)
   omega
 · rw[zhh h]
   refine ⟨by simp,by rw[List.length_cons];omega,List.Pairwise.cons (fun e he => ?_) h1,fun e he => ?_,fun e he => ?_⟩
   · have:=h2 e he;dsimp only;omega
   · rcases List.mem_cons.1 he with rfl|he
     · dsimp only;omega
     · have:=h2 e he;omega
   · rcases List.mem_cons.1 he with rfl|he
     · dsimp only;omega
     · exact h3 e he
theorem zF5 {ws:List Nat} {a:Int} (h:zdw ws a=0):∀ e ∈ zct ws a,a≤e.a∧e.a<(ws.length:Int)∧e.v<2048:=by
 obtain ⟨f,-,-,-,-,-,g7,g8,g9,g10⟩:=zhb h
 intro e he
 obtain ⟨r,r1,r2,r3,r4⟩:=g9 e he
 have hit:=zdu (zct ws a) ws g10 e he (by omega) (by omega)
 rw[r1,Int.toNat_natCast] at hit
 by_cases hex:∃ i,i<(zb0 ws a).length∧f i=r
 · obtain ⟨i,hi,e2⟩:=hex
   have:=(g7 i hi).2.1
   omega
 · have:=g8 r (fun i hi h2=>hex ⟨i,hi,h2⟩)
   rw[hit] at this
   exact absurd this.symm r3
theorem zck {ws:List Nat} (h:zao ws=0):zcs ws=0∧zah (ws.length:Int)=true∧zh5 ws=true∧zAy (wd ws 16) (wd ws 17) (wd ws 18)=true:=by
 have h1:=(zgz (zjw h)).1
 exact ⟨h1,zfs h1⟩
theorem zDq {xs:List Nat} (h1:zah (xs.length:Int)=true) (h2:zh5 xs=true) (h3:zAy (wd xs 16) (wd xs 17) (wd xs 18)=true):zcs xs=0:=(zl5 h1 (by rw[h2,h3];rfl)).1
theorem zgf {ws:List Nat} {E:List En} (h:∀ e ∈ E,19≤e.a) {i:Nat} (hi:i<19):wd (zag ws E) i=wd ws i:=za9 _ _ _ fun e he=>by have:=h e he;omega
theorem zj7 {n:Nat} {E:List En} (h:Small n E) {ws:List Nat} {i:Nat} (h1:19≤i) (h2:i<112):wd (zag ws E) i=wd ws i:=za9 _ _ _ fun e he=>by have:=(h.ins e he).1;omega
theorem zjp {ws:List Nat} {E:List En} (hs:Small ws.length E) (hl:zh5 ws=true) (h16:wd (zag ws E) 16≤ws.length) (h17:wd (zag ws E) 17≤ws.length) (h18:wd (zag ws E) 18≤ws.length):zh5 (zag ws E)=true:=by
 obtain ⟨-,a3,a4,a5,a6,a7⟩:=(zbn ws).1 hl
 rw[zbn,zau]
 exact ⟨⟨h16,h17,h18⟩,by rw[zj7 hs (by omega) (by omega)];exact a3,by rw[zj7 hs (by omega) (by omega)];exact a4,by rw[zj7 hs (by omega) (by omega)];exact a5,by rw[zj7 hs (by omega) (by omega)];exact a6,by rw[zj7 hs (by omega) (by omega)];exact a7⟩
def onW (ws xs:List Nat):Prop:=wd ws 16≤wd xs 16∧(wd xs 16=wd ws 16→wd ws 17≤wd xs 17∧wd ws 18≤wd xs 18)
theorem zje {ws:List Nat} {j v:Nat} {l:List En} (hj:j<ws.length) (hl:∀ e ∈ l,e.a≠(j:Int)):wd (zag ws (⟨(j:Int),v⟩ :: l)) j=v:=by
 rw[zfh j v l hj,za9 _ _ _ hl]
 unfold wd
 rw[List.getElem?_set_self hj];rfl
theorem zql {ws:List Nat} {j i v:Nat} {l:List En} (hj:j<ws.length) (_hne:i≠j):wd (zag ws (⟨(j:Int),v⟩ :: l)) i=wd (zag (ws.set j v) l) i:=by rw[zfh j v l hj]
theorem zdc {ws:List Nat} {i j v:Nat} (h:i≠j):wd (ws.set j v) i=wd ws i:=by unfold wd;rw[List.getElem?_set_ne (by omega)]
theorem zfe {ws:List Nat} {p:Nat} {l:List En} (hck:zao ws=0) (hp:wd ws 16=p) (hp2:p=1∨p=2) (h1:l.Pairwise (fun a b=>a.a<b.a)) (h2:∀ e ∈ l,128≤e.a∧e.a<(ws.length:Int)) (h3:∀ e ∈ l,e.v<18446744073709551616) :
   Small ws.length (zg1 l (p+1))∧zcs (zag ws (zg1 l (p+1)))=0∧onW ws (zag ws (zg1 l (p+1)))∧wd (zag ws (zg1 l (p+1))) 16=(if 32≤l.length then p else p+1)∧wd (zag ws (zg1 l (p+1))) 17=0∧wd (zag ws (zg1 l (p+1))) 18=0:=by
 obtain ⟨-,hs,hl,hph⟩:=zck hck
 have hb:=(zad _).1 hs
 have hsm:=zDa (n:=ws.length) (p:=p+1) (by omega) (by omega) h1 h2 h3
 have h0:wd ws 17=0∧wd ws 18=0:=by
   rcases (zcp _ _ _).1 hph with h|h|h <;> omega
 have hw:wd (zag ws (zg1 l (p+1))) 16=(if 32≤l.length then p else p+1)∧wd (zag ws (zg1 l (p+1))) 17=0∧wd (zag ws (zg1 l (p+1))) 18=0:=by
   by_cases h:32≤l.length
   · rw[zcd h,if_pos h]
     have hlow:∀ e ∈ l.take 31,19≤e.a:=fun e he=>by have:=h2 e (List.mem_of_mem_take he);omega
     rw[zgf hlow (by omega),zgf hlow (by omega),zgf hlow (by omega)]
     exact ⟨hp,h0⟩
   · rw[zhh h,if_neg h,show (16:Int)=((16:Nat):Int) from rfl]
     have hlow:∀ e ∈ l,19≤e.a:=fun e he=>by have:=h2 e he;omega
     rw[zje (by omega) (fun e he=>by have:=hlow e he;omega),zql (by omega) (by omega),zql (by omega) (by omega),zgf hlow (by omega),zgf hlow (by omega),zdc (by omega),zdc (by omega)]
     exact ⟨rfl,h0⟩
 obtain ⟨w1,w2,w3⟩:=hw
 have hle:(if 32≤l.length then p else p+1)≤3∧p≤(if 32≤l.length then p else p+1):=by split <;> omega
 refine ⟨hsm,zDq (by rw[zau];exact hs) (zjp hsm hl (by rw[w1];omega) (by rw[w2];omega) (by rw[w3];omega)) ?_,⟨by rw[w1,hp];omega,fun _=>by rw[w2,w3,h0.1,h0.2];exact ⟨Nat.le_refl _,Nat.le_refl _⟩⟩,w1,w2,w3⟩
 rw[w1,w2,w3,zcp]
 rcases hp2 with rfl|rfl
 · right;right;split <;> omega
 · by_cases h:32≤l.length
   · rw[if_pos h];right;right;omega
   · rw[if_neg h];right;left;exact ⟨rfl,rfl,.inl rfl⟩
theorem zii {ws:List Nat} {f:Nat} {l:List En} (hck:zao ws=0) (hp:wd ws 16=3) (hf:zkp f=true) (hfn:f≤ws.length) (hfw:wd ws 17≤f) (h0:l.length≤31) (h1:l.Pairwise (fun a b=>a.a<b.a)) (h2:∀ e ∈ l,112≤e.a∧e.a<(ws.length:Int)) (h3:∀ e ∈ l,e.v<18446744073709551616) :
  Small ws.length (⟨17,f⟩ :: l)∧zcs (zag ws (⟨17,f⟩ :: l))=0∧onW ws (zag ws (⟨17,f⟩ :: l))∧wd (zag ws (⟨17,f⟩ :: l)) 16=3∧wd (zag ws (⟨17,f⟩ :: l)) 17=f∧wd (zag ws (⟨17,f⟩ :: l)) 18=0:=by
 obtain ⟨-,hs,hl,hph⟩:=zck hck
 have hb:=(zad _).1 hs
 have hi:=(za7 f).1 hf
 have hlow:∀ e ∈ l,19≤e.a:=fun e he=>by have:=h2 e he;omega
 have h00:wd ws 18=0:=by
  rcases (zcp _ _ _).1 hph with h|h|h <;> omega
 have hsm:Small ws.length (⟨17,f⟩ :: l):=by
  refine ⟨by simp,by rw[List.length_cons];omega,List.Pairwise.cons (fun e he => ?_) h1,fun e he => ?_,fun e he => ?_⟩
  · have:=hlow e he;dsimp only;omega
  · rcases List.mem_cons.1 he with rfl|he
    · dsimp only;omega
    · have:=h2 e he;omega
  · rcases List.mem_cons.1 he with rfl|he
    · dsimp only;omega
    · exact h3 e he
 have hw:wd (zag ws (⟨17,f⟩ :: l)) 16=3∧wd (zag ws (⟨17,f⟩ :: l)) 17=f∧wd (zag ws (⟨17,f⟩ :: l)) 18=0:=by
  rw[show (17:Int)=((17:Nat):Int) from rfl]
  rw[zql (by omega) (by omega),zje (by omega) (fun e he=>by have:=hlow e he;omega),zql (by omega) (by omega),zgf hlow (by omega),zgf hlow (by omega),zdc (by omega),zdc (by omega)]
  exact ⟨hp,rfl,h00⟩
 obtain ⟨w1,w2,w3⟩:=hw
 refine ⟨hsm,zDq (by rw[zau];exact hs) (zjp hsm hl (by rw[w1];omega) (by rw[w2];omega) (by rw[w3];omega)) ?_,⟨by rw[w1,hp];exact Nat.le_refl _,fun _=>by rw[w2,w3,h00];exact ⟨hfw,Nat.le_refl _⟩⟩,w1,w2,w3⟩
 rw[w1,w2,w3,zcp]
 right;left;exact ⟨rfl,rfl,.inr hf⟩
theorem zgd {ws:List Nat} (hck:zao ws=0) (hp:wd ws 16=3):Small ws.length zb3∧zcs (zag ws zb3)=0∧onW ws (zag ws zb3)∧wd (zag ws zb3) 16=4∧wd (zag ws zb3) 17=128∧wd (zag ws zb3) 18=128:=by
 obtain ⟨-,hs,hl,hph⟩:=zck hck
 have hb:=(zad _).1 hs
 have hsm:Small ws.length zb3:=by
  refine ⟨by decide,by decide,by unfold zb3;simp,fun e he => ?_,fun e he => ?_⟩
  · unfold zb3 at he
    simp only[List.mem_cons,List.not_mem_nil,or_false] at he
    rcases he with rfl|rfl|rfl <;> (dsimp only;omega)
  · unfold zb3 at he
    simp only[List.mem_cons,List.not_mem_nil,or_false] at he
    rcases he with rfl|rfl|rfl <;> (dsimp only;omega)
 have hw:wd (zag ws zb3) 16=4∧wd (zag ws zb3) 17=128∧wd (zag ws zb3) 18=128:=by
  unfold zb3
  rw[show (16:Int)=((16:Nat):Int) from rfl,show (17:Int)=((17:Nat):Int) from rfl,show (18:Int)=((18:Nat):Int) from rfl]
  rw[zfh 16 _ _ (by omega),zfh 17 _ _ (by rw[List.length_set];omega),zfh 18 _ _ (by rw[List.length_set,List.length_set];omega)]
  simp only[zag]
  refine ⟨?_,?_,?_⟩
  · rw[zdc (by omega),zdc (by omega)];unfold wd;rw[List.getElem?_set_self (by omega)];rfl
  · rw[zdc (by omega)];unfold wd;rw[List.getElem?_set_self (by rw[List.length_set];omega)];rfl
  · unfold wd;rw[List.getElem?_set_self (by rw[List.length_set,List.length_set];omega)];rfl
 obtain ⟨w1,w2,w3⟩:=hw
 refine ⟨hsm,zDq (by rw[zau];exact hs) (zjp hsm hl (by rw[w1];omega) (by rw[w2];omega) (by rw[w3];omega)) (by rw[w1,w2,w3];decide),⟨by rw[w1,hp];omega,fun h=>by rw[w1,hp] at h;exact absurd h (by decide)⟩,w1,w2,w3⟩
theorem zne {ws:List Nat} {f t:Nat} {l:List En} (hck:zao ws=0) (hp:wd ws 16=4) (hf:zkp f=true) (ht:zkp t=true) (htf:t≤f) (hfn:f≤ws.length) (hfw:wd ws 17≤f) (htw:wd ws 18≤t) (h0:l.length≤30) (h1:l.Pairwise (fun a b=>a.a<b.a)) (h2:∀ e ∈ l,112≤e.a∧e.a<(ws.length:Int)) (h3:∀ e ∈ l,e.v<18446744073709551616) :
  Small ws.length (⟨17,f⟩ :: ⟨18,t⟩ :: l)∧zcs (zag ws (⟨17,f⟩ :: ⟨18,t⟩ :: l))=0∧onW ws (zag ws (⟨17,f⟩ :: ⟨18,t⟩ :: l))∧wd (zag ws (⟨17,f⟩ :: ⟨18,t⟩ :: l)) 16=4∧wd (zag ws (⟨17,f⟩ :: ⟨18,t⟩ :: l)) 17=f∧wd (zag ws (⟨17,f⟩ :: ⟨18,t⟩ :: l)) 18=t:=by
 obtain ⟨-,hs,hl,hph⟩:=zck hck
 have hb:=(zad _).1 hs
 have hi:=(za7 f).1 hf
 have hj:=(za7 t).1 ht
 have hlow:∀ e ∈ l,19≤e.a:=fun e he=>by have:=h2 e he;omega
 have hsm:Small ws.length (⟨17,f⟩ :: ⟨18,t⟩ :: l):=by
  refine ⟨by simp,by rw[List.length_cons,List.length_cons];omega,List.Pairwise.cons (fun e he => ?_) (List.Pairwise.cons (fun e he => ?_) h1),fun e he => ?_,fun e he => ?_⟩
  · rcases List.mem_cons.1 he with rfl|he
    · dsimp only;omega
    · have:=hlow e he;dsimp only;omega
  · have:=hlow e he;dsimp only;omega
  · rcases List.mem_cons.1 he with rfl|he
    · dsimp only;omega
    · rcases List.mem_cons.1 he with rfl|he
      · dsimp only;omega
      · have:=h2 e he;omega
  · rcases List.mem_cons.1 he with rfl|he
    · dsimp only;omega
    · rcases List.mem_cons.1 he with rfl|he
      · dsimp only;omega
      · exact h3 e he
 have hw:wd (zag ws (⟨17,f⟩ :: ⟨18,t⟩ :: l)) 16=4∧wd (zag ws (⟨17,f⟩ :: ⟨18,t⟩ :: l)) 17=f∧wd (zag ws (⟨17,f⟩ :: ⟨18,t⟩ :: l)) 18=t:=by
  rw[show (17:Int)=((17:Nat):Int) from rfl,show (18:Int)=((18:Nat):Int) from rfl]
  rw[zfh 17 _ _ (by omega),zfh 18 _ _ (by rw[List.length_set];omega),zgf hlow (by omega),zgf hlow (by omega),zgf hlow (by omega)]
  refine ⟨?_,?_,?_⟩
  · rw[zdc (by omega),zdc (by omega)];exact hp
  · rw[zdc (by omega)];unfold wd;rw[List.getElem?_set_self (by omega)];rfl
  · unfold wd;rw[List.getElem?_set_self (by rw[List.length_set];omega)];rfl
 obtain ⟨w1,w2,w3⟩:=hw
 refine ⟨hsm,zDq (by rw[zau];exact hs) (zjp hsm hl (by rw[w1];omega) (by rw[w2];omega) (by rw[w3];omega)) ?_,⟨by rw[w1,hp];exact Nat.le_refl _,fun _=>by rw[w2,w3];exact ⟨hfw,htw⟩⟩,w1,w2,w3⟩
 rw[w1,w2,w3,zcp]
 left;exact ⟨rfl,hf,ht,htf⟩
end Go.Proofs.YtpcajamacpbjcaaGreat
namespace Go.Proofs.YtpcajamacpbjcaaGreat
open Lib (hid)
open Go.RowKit
theorem zms {α:Type} {p q:α→Bool}:∀ {l:List α},(∀ b ∈ l,q b=true→p b=true)→(l.filter q).length≤(l.filter p).length∧((∃ b ∈ l,p b=true∧q b=false)→(l.filter q).length<(l.filter p).length):=by
 intro l
 induction l with
 | nil=>intro _;exact ⟨Nat.le_refl _,fun ⟨b,hb,_⟩=>by simp at hb⟩
 | cons b l ih =>
  intro h
  obtain ⟨i1,i2⟩:=ih (fun c hc=>h c (by simp[hc]))
  have hb:=h b (by simp)
  rw[List.filter_cons,List.filter_cons]
  refine ⟨?_,fun ⟨c,hc,h1,h2⟩ => ?_⟩
  · cases hq:q b with
    | true=>rw[hb hq];simp;omega
    | false=>cases hp:p b <;> simp <;> omega
  · rcases List.mem_cons.1 hc with rfl|hc
    · rw[h1,h2];simp;omega
    · have:=i2 ⟨c,hc,h1,h2⟩
      cases hq:q b with
      | true=>rw[hb hq];simp;omega
      | false=>cases hp:p b <;> simp <;> omega
theorem zg4 {ws:List Nat} (h:zap ws=0) {E:List En} (hs:E.Sublist (za4 ws)):Rm ws (zag ws E):=by
 have hi:E.Pairwise (fun a b=>a.a<b.a):=(zdq h).sublist hs
 refine ⟨zau _ _,fun i => ?_⟩
 by_cases hx:∃ e ∈ E,e.a=(i:Int)
 · obtain ⟨e,he,hei⟩:=hx
   obtain ⟨a,-,a1,a2,a3,g1,g2,rfl,-⟩:=zdo h (hs.subset he)
   have hai:a=i:=by dsimp only at hei;omega
   subst hai
   refine .inr ⟨a1,a2,g1,g2,zd6 ws (bkAt ws a),?_⟩
   have:=zdu E ws hi _ he (by dsimp only;omega) (by dsimp only;omega)
   dsimp only at this
   rw[Int.toNat_natCast] at this
   exact this
 · exact .inl (za9 _ _ _ (fun e he h2=>hx ⟨e,he,h2⟩))
theorem zvq {ws:List Nat} (h:zap ws=0) (h32:32≤(za4 ws).length):zap (zag ws ((za4 ws).take 31))=0∧(za4 (zag ws ((za4 ws).take 31))).length<(za4 ws).length:=by
 have hsub:((za4 ws).take 31).Sublist (za4 ws):=List.take_sublist _ _
 have hinc:((za4 ws).take 31).Pairwise (fun a b=>a.a<b.a):=(zdq h).sublist hsub
 obtain ⟨g1,g2,g3,g4,g5⟩:=(zg4 h hsub).same h
 refine ⟨g1,?_⟩
 rw[zdz g1,g3,g5,List.length_map,zdz h,List.length_map]
 rw[←zdz h]
 obtain ⟨x,hx⟩:∃ x,zag ws ((za4 ws).take 31)=x:=⟨_,rfl⟩
 rw[hx]
 unfold zk5
 rw[List.filter_map,List.length_map]
 have hrow:=zb1 (zas h).1
 have hmk:∀ b ∈ zab ws,(∀ e ∈ (za4 ws).take 31,e.a≠b.at_)→(mkB x b).mark=b.mark:=by
   intro b hb hno
   obtain ⟨a,rfl,a1,a2,a3,a4⟩:=hrow.1 b hb
   show zrh x (bkAt ws a).at_.toNat=_
   rw[zaa,Int.toNat_natCast]
   unfold zrh
   rw[←hx,za9 _ _ _ (fun e he=>by have:=hno e he;rwa [zaa] at this)]
   rfl
 refine (zms (fun b hb hq => ?_)).2 ?_
 · dsimp only[Function.comp_apply] at hq ⊢
   cases hk:zee (seenL ws) b with
   | false=>rfl
   | true =>
    exfalso
    have hm:=hmk b hb (fun e he h2=>by
     obtain ⟨a,hm,b1,b2,b3,g1',g2',rfl,hk'⟩:=zdo h (hsub.subset he)
     dsimp only at h2
     have:bkAt ws a=b:=by
      have hp:=hrow.2
      rw[List.pairwise_iff_getElem] at hp
      obtain ⟨i,hi,e1⟩:=List.getElem_of_mem hm
      obtain ⟨j,hj,e2⟩:=List.getElem_of_mem hb
      have h3:(zab ws)[i].at_=(zab ws)[j].at_:=by rw[e1,e2,zaa];exact h2
      rcases Nat.lt_trichotomy i j with h4|h4|h4
      · have:=hp i j hi hj h4;omega
      · subst h4;rw[←e1,←e2]
      · have:=hp j i hj hi h4;omega
     rw[this,hk] at hk';cases hk')
    unfold zee at hk hq
    rw[hm] at hq
    change (!(b.mark == ((seenL ws)[b.at_.toNat]?.getD false)))=true at hq
    rw[hk] at hq
    exact absurd hq (by decide)
 · have hpos:0<((za4 ws).take 31).length:=by rw[List.length_take];omega
   have he:=List.getElem_mem hpos
   obtain ⟨a,hm,b1,b2,b3,g1',g2',e1,hk'⟩:=zdo h (hsub.subset he)
   refine ⟨bkAt ws a,hm,by rw[hk'];rfl,?_⟩
   dsimp only[Function.comp_apply]
   have hit:=zdu _ ws hinc _ he (by rw[e1];dsimp only;omega) (by rw[e1];dsimp only;omega)
   rw[e1] at hit
   dsimp only at hit
   rw[Int.toNat_natCast,hx] at hit
   unfold zee
   show (!((mkB x (bkAt ws a)).mark == ((seenL ws)[(bkAt ws a).at_.toNat]?.getD false)))=false
   have hm2:(mkB x (bkAt ws a)).mark=zd6 ws (bkAt ws a):=by
    show zrh x (bkAt ws a).at_.toNat=_
    rw[zaa,Int.toNat_natCast]
    unfold zrh
    rw[hit,(zhg g1' g2' _).2.1]
   rw[hm2]
   unfold zd6
   simp
structure Ev (ws xs:List Nat):Prop where
 len:xs.length=ws.length
 at_:∀ i,(i % 2=0∧96≤i∨96≤i∧i<128)→wd xs i=wd ws i
def nxB (xs:List Nat) (b:Bk):Bk:={ b with next:=wd xs (b.at_.toNat+1) }
section
variable {ws xs:List Nat}
theorem Ev.stands (h:Ev ws xs) {i:Nat} (hi:i % 2=0) (h96:96≤i):stands xs i=stands ws i:=by
 unfold Proofs.YtpcajamacpbjcaaGreat.stands
 rw[h.at_ i (.inl ⟨hi,h96⟩),h.len]
theorem Ev.bkAt (h:Ev ws xs) {i:Nat} (hi:i % 2=0) (h96:96≤i):bkAt xs i=nxB xs (bkAt ws i):=by
 unfold nxB
 have h1:(Proofs.YtpcajamacpbjcaaGreat.bkAt ws i).at_.toNat=i:=by rw[zaa,Int.toNat_natCast]
 rw[h1]
 unfold Proofs.YtpcajamacpbjcaaGreat.bkAt
 rw[h.at_ i (.inl ⟨hi,h96⟩)]
theorem Ev.blocks (h:Ev ws xs):∀ i l,blocks ws i=some l→i % 2=0→96≤i→blocks xs i=some (l.map (nxB xs)):=by
 refine zdb (fun i l=>i % 2=0→96≤i→Proofs.YtpcajamacpbjcaaGreat.blocks xs i=some (l.map (nxB xs))) (fun i hi _ _ => ?_) (fun i l hi hs hb ih h2 h3 => ?_)
 · exact zaq (by rw[h.len];exact hi)
 · have hsz:=zav hs
   have ih:=ih (by omega) (by omega)
   have hz:szAt xs i=szAt ws i:=by unfold szAt;rw[h.at_ i (.inl ⟨h2,h3⟩)]
   rw[zaz (by rw[h.len];exact hi) (by rw[h.stands h2 h3];exact hs),hz,ih,h.bkAt h2 h3]
   rfl
theorem zK9 (h:Ev ws xs) {b:Bk} (hb:b.kind=1→tyA b+1<128):zds xs (nxB xs b)=zds ws b:=by
 by_cases hk:b.kind=1
 · have h2:=hb hk
   have h3:96≤tyA b:=by unfold tyA;omega
   unfold zds zc2
   show (b.kind != 1 || (zb7 (wd xs (tyA b)) (wd xs (tyA b+1)) && b.size == ((za8 (wd xs (tyA b) % 256):Nat):Int)))=_
   rw[h.at_ _ (.inr ⟨h3,by omega⟩),h.at_ _ (.inr ⟨by omega,h2⟩)]
 · rw[zd3 hk,zd3 (b:=nxB xs b) hk]
theorem Ev.heap (h:Ev ws xs) (h0:zae ws=0):zae xs=0∧zab xs=(zab ws).map (nxB xs):=by
 obtain ⟨h1,l,h2,h3,h4⟩:=zam h0
 have hb:=h.blocks 128 l h2 (by omega) (by omega)
 rw[h4]
 refine ze7 (by rw[h.len];exact h1) hb ?_
 rw[List.all_map,List.all_eq_true]
 rw[List.all_eq_true] at h3
 intro b hb2
 show zds xs (nxB xs b)=true
 rw[zK9 h (zgo h2 (by omega) b hb2)]
 exact h3 b hb2
end
theorem zfq:∀ {l:List Bk} {s:Int} {e:En},e ∈ za2 l s→∃ b ∈ l,b.kind=1∧e.a=b.at_+1:=by
 intro l
 induction l with
 | nil=>intro s e h;simp[za2] at h
 | cons x l ih =>
  intro s e h
  simp only[za2,List.mem_append] at h
  rcases h with h|h
  · split at h
    · rename_i hx
      rw[List.mem_singleton] at h
      subst h
      exact ⟨x,by simp,hx.1,rfl⟩
    · simp at h
  · obtain ⟨b,h1,h2⟩:=ih h
    exact ⟨b,by simp[h1],h2⟩
theorem zF8 {xs:List Nat}:∀ {l:List Bk} {s:Int},l.Pairwise (fun a b=>a.at_<b.at_)→(∀ b ∈ l,0≤b.at_)→(∀ b ∈ l,b.kind=1→wd xs (b.at_.toNat+1)=b.next∨∃ e ∈ za2 l s,e.a=b.at_+1∧wd xs (b.at_.toNat+1)=e.v) →
  (za2 (l.map (nxB xs)) s).length≤(za2 l s).length∧((∃ e ∈ za2 l s,wd xs e.a.toNat=e.v)→(za2 (l.map (nxB xs)) s).length<(za2 l s).length):=by
 intro l
 induction l with
 | nil=>intro s _ _ _;exact ⟨Nat.le_refl _,fun ⟨e,he,_⟩=>by simp[za2] at he⟩
 | cons b l ih =>
  intro s hp h0 hq
  rw[List.pairwise_cons] at hp
  have htail:∀ c ∈ l,c.kind=1→wd xs (c.at_.toNat+1)=c.next∨∃ e ∈ za2 l (zeo b s),e.a=c.at_+1∧wd xs (c.at_.toNat+1)=e.v:=by
    intro c hc hk
    rcases hq c (by simp[hc]) hk with h1|⟨e,he,h2,h3⟩
    · exact .inl h1
    · simp only[za2,List.mem_append] at he
      rcases he with he|he
      · split at he
        · rw[List.mem_singleton] at he
          subst he
          dsimp only at h2
          have:=hp.1 c hc
          omega
        · simp at he
      · exact .inr ⟨e,he,h2,h3⟩
  obtain ⟨i1,i2⟩:=ih (s:=zeo b s) hp.2 (fun c hc=>h0 c (by simp[hc])) htail
  have hb0:=h0 b (by simp)
  rw[List.map_cons]
  simp only[za2]
  have e1:zeo (nxB xs b) s=zeo b s:=rfl
  have e2:zbp (nxB xs b) s=zbp b s:=rfl
  rw[e1,e2,List.length_append,List.length_append]
  have hnx:(nxB xs b).next=wd xs (b.at_.toNat+1):=rfl
  have hkk:(nxB xs b).kind=b.kind:=rfl
  have hat:(nxB xs b).at_=b.at_:=rfl
  have hhead:b.kind=1→wd xs (b.at_.toNat+1)=b.next∨wd xs (b.at_.toNat+1)=zbp b s:=by
    intro hk
    rcases hq b (by simp) hk with h1|⟨e,he,h2,h3⟩
    · exact .inl h1
    · simp only[za2,List.mem_append] at he
      rcases he with he|he
      · split at he
        · rw[List.mem_singleton] at he
          subst he
          exact .inr h3
        · simp at he
      · obtain ⟨c,hc,-,h4⟩:=zfq he
        have:=hp.1 c hc
        omega
  have hle:(if (nxB xs b).kind=1∧(nxB xs b).next≠zbp b s then [(⟨(nxB xs b).at_+1,zbp b s⟩:En)] else []).length≤(if b.kind=1∧b.next≠zbp b s then [(⟨b.at_+1,zbp b s⟩:En)] else []).length:=by
    rw[hnx,hkk,hat]
    by_cases hk:b.kind=1
    · rcases hhead hk with h1|h1
      · rw[h1];exact Nat.le_refl _
      · rw[if_neg (fun h=>h.2 h1)];exact Nat.zero_le _
    · rw[if_neg (fun h=>hk h.1)];exact Nat.zero_le _
  refine ⟨by omega,fun ⟨e,he,hev⟩ => ?_⟩
  rcases List.mem_append.1 he with he|he
  · split at he
    · rename_i hc
      rw[List.mem_singleton] at he
      subst he
      dsimp only at hev
      have hn:(b.at_+1).toNat=b.at_.toNat+1:=by omega
      rw[hn] at hev
      rw[hnx,hkk,hat,if_neg (fun h=>h.2 hev),if_pos hc]
      simp only[List.length_nil,List.length_cons]
      omega
    · simp at he
  · have:=i2 ⟨e,he,hev⟩
    omega
end Go.Proofs.YtpcajamacpbjcaaGreat
namespace Go.Proofs.YtpcajamacpbjcaaGreat
open Lib (hid)
open Go.RowKit
noncomputable def stM (ws:List Nat):Nat:=if wd ws 16=1 then (za4 ws).length+1 else if wd ws 16=2 then (za0 ws).length+1 else ws.length+1 - wd ws 17
theorem zos {ws:List Nat}:∀ k a,ws.length - a≤k→a≤ws.length→(zkn ws a).1=0→zkn ws a=(0,zb3)∨∃ m:Nat,128≤m∧a≤m∧m % 2=0∧2≤szAt ws m∧szAt ws m % 2=0∧m+szAt ws m≤ws.length∧zdw ws (m:Int)=0∧zkn ws a=(0,⟨17,m+szAt ws m⟩ :: zct ws (m:Int)):=by
 intro k
 induction k with
 | zero =>
  intro a hk ha h
  by_cases h0:zbj ws (a:Int)=0
  · obtain ⟨hs,a1,a2,m,e,m1,m2,m3,m4,m5,-⟩:=zfc h0
    omega
  · exact .inl (zi2 h0)
 | succ k ih =>
  intro a hk ha h
  by_cases h0:zbj ws (a:Int)=0
  · obtain ⟨hs,a1,a2,m,e,m1,m2,m3,m4,m5,-⟩:=zfc h0
    by_cases hr:zb0 ws (m:Int)=[]
    · have e2:=zkk h0 e hr
      rw[e2] at h ⊢
      rcases ih (m+szAt ws m) (by omega) (by omega) h with h1|⟨q,q1,q2,q3,q4,q5,q6,q7,q8⟩
      · exact .inl h1
      · exact .inr ⟨q,q1,by omega,q3,q4,q5,q6,q7,q8⟩
    · by_cases ho:zdw ws (m:Int)=0
      · exact .inr ⟨m,by omega,m1,m2,m3,m4,m5,ho,zps h0 e hr ho⟩
      · rw[zu8 h0 e hr ho] at h
        exact absurd h ho
  · exact .inl (zi2 h0)
theorem zrv {x:List Nat} (h:zae x=0):za0 x=za2 (zab x) 128:=by unfold za0;rw[if_pos h]
theorem zow {ws:List Nat} (h:zae ws=0):(za0 ws).Pairwise (fun a b=>a.a<b.a)∧(∀ e ∈ za0 ws,128≤e.a∧e.a<(ws.length:Int))∧(∀ e ∈ za0 ws,e.v<18446744073709551616):=by
 have hw:za0 ws=za2 (zab ws) 128:=by unfold za0;rw[if_pos h]
 obtain ⟨_,l,g2,-,g4⟩:=zam h
 refine ⟨?_,fun e he => ?_,(zvc h).2⟩
 · rw[hw,g4];exact zBf _ _ g2 128
 · rw[hw,g4] at he
   have:=zp7 _ _ g2 128 e he
   omega
theorem zIy {ws:List Nat} (h:zae ws=0) (h32:32≤(za0 ws).length):zae (zag ws ((za0 ws).take 31))=0∧(za0 (zag ws ((za0 ws).take 31))).length<(za0 ws).length:=by
 obtain ⟨i1,i2,i3⟩:=zow h
 have hw:za0 ws=za2 (zab ws) 128:=by unfold za0;rw[if_pos h]
 have hrow:=zb1 h
 have hsub:((za0 ws).take 31).Sublist (za0 ws):=List.take_sublist _ _
 have hinc:((za0 ws).take 31).Pairwise (fun a b=>a.a<b.a):=i1.sublist hsub
 have hodd:∀ e ∈ za0 ws,∃ a:Nat,e.a=((a+1:Nat):Int)∧a % 2=0∧128≤a:=by
  intro e he
  rw[hw] at he
  obtain ⟨b,hb,-,e2⟩:=zfq he
  obtain ⟨a,rfl,a1,a2,-⟩:=hrow.1 b hb
  exact ⟨a,by rw[e2,zaa];rfl,a2,a1⟩
 have hev:Ev ws (zag ws ((za0 ws).take 31)):=by
  refine ⟨zau _ _,fun i hi=>za9 _ _ _ fun e he h2 => ?_⟩
  obtain ⟨a,e1,a1,a2⟩:=hodd e (hsub.subset he)
  omega
 obtain ⟨g1,g2⟩:=hev.heap h
 refine ⟨g1,?_⟩
 have hw2:za0 (zag ws ((za0 ws).take 31))=za2 ((zab ws).map (nxB (zag ws ((za0 ws).take 31)))) 128:=by rw[zrv g1,g2]
 rw[hw2]
 have key:=zF8 (xs:=zag ws ((za0 ws).take 31)) (l:=zab ws) (s:=128) hrow.2 (fun b hb=>by obtain ⟨a,rfl,-⟩:=hrow.1 b hb;rw[zaa];omega) (fun b hb hk=>by
  obtain ⟨a,rfl,a1,a2,a3,a4⟩:=hrow.1 b hb
  have hsz:=zav a4
  rw[zaa,Int.toNat_natCast]
  by_cases hx:∃ e ∈ (za0 ws).take 31,e.a=((a+1:Nat):Int)
  · obtain ⟨e,he,e1⟩:=hx
    refine .inr ⟨e,by rw[←hw];exact hsub.subset he,by rw[e1];omega,?_⟩
    have:=zdu _ ws hinc e he (by omega) (by omega)
    rw[e1,Int.toNat_natCast] at this
    exact this
  · exact .inl (by rw[za9 _ _ _ (fun e he h2=>hx ⟨e,he,h2⟩)];rfl))
 rw[←hw] at key
 refine key.2 ?_
 have hpos:0<((za0 ws).take 31).length:=by rw[List.length_take];omega
 have he:=List.getElem_mem hpos
 have hin:=i2 _ (hsub.subset he)
 exact ⟨_,hsub.subset he,zdu _ ws hinc _ he (by omega) (by omega)⟩
theorem zlu {ws:List Nat} (ho:∀ x ∈ ws,x<18446744073709551616) (h:(zac ws).1=0):zao ws=0∧Small ws.length (zac ws).2∧zcs (zag ws (zac ws).2)=0∧onW ws (zag ws (zac ws).2)∧(wd (zag ws (zac ws).2) 16=wd ws 16→stM (zag ws (zac ws).2)<stM ws)∧(1≤wd ws 16∧wd ws 16≤4)∧wd (zag ws (zac ws).2) 16≤wd ws 16+1∧(wd ws 16=4→wd (zag ws (zac ws).2) 16=4):=by
 have hck:zao ws=0:=by
   by_cases h0:zao ws=0
   · exact h0
   · unfold zac at h;rw[if_neg h0] at h;exact absurd h h0
 obtain ⟨-,hs,hl,hph⟩:=zck hck
 have hb:=(zad _).1 hs
 obtain ⟨⟨l1,l2,l3⟩,-⟩:=(zbn ws).1 hl
 by_cases p1:wd ws 16=1
 · have hrc:zap ws=0:=by
     by_cases h0:zap ws=0
     · exact h0
     · unfold zac at h;rw[if_pos hck,if_pos p1,if_neg h0] at h;exact absurd h h0
   have e:zac ws=(0,zg1 (za4 ws) 2):=by unfold zac;rw[if_pos hck,if_pos p1,if_pos hrc]
   rw[e]
   dsimp only
   obtain ⟨r1,r2⟩:=zqd hrc
   obtain ⟨g1,g2,g3,g4,g5,g6⟩:=zfe hck p1 (.inl rfl) (zdq hrc) (fun x hx=>by
     obtain ⟨i,hi⟩:=List.mem_iff_getElem?.1 hx
     exact r1 i x hi) (zo6 hrc)
   simp only[Nat.reduceAdd] at g1 g2 g3 g4 g5 g6
   refine ⟨hck,g1,g2,g3,fun h5 => ?_,by omega,by rw[g4];split <;> omega,fun h5=>by omega⟩
   have h32:32≤(za4 ws).length:=by
     rw[g4] at h5
     split at h5
     · assumption
     · omega
   have hd:=(zvq hrc h32).2
   rw[p1] at h5
   unfold stM
   rw[if_pos h5,if_pos p1,zcd h32]
   omega
 · by_cases p2:wd ws 16=2
   · have hhp:zae ws=0:=by
       by_cases h0:zae ws=0
       · exact h0
       · unfold zac at h;rw[if_pos hck,if_neg p1,if_pos p2,if_neg h0] at h;exact absurd h h0
     have e:zac ws=(0,zg1 (za0 ws) 3):=by unfold zac;rw[if_pos hck,if_neg p1,if_pos p2,if_pos hhp]
     rw[e]
     dsimp only
     obtain ⟨r1,r2,r3⟩:=zow hhp
     obtain ⟨g1,g2,g3,g4,g5,g6⟩:=zfe hck p2 (.inr rfl) r1 r2 r3
     simp only[Nat.reduceAdd] at g1 g2 g3 g4 g5 g6
     refine ⟨hck,g1,g2,g3,fun h5 => ?_,by omega,by rw[g4];split <;> omega,fun h5=>by omega⟩
     have h32:32≤(za0 ws).length:=by
       rw[g4] at h5
       split at h5
       · assumption
       · omega
     have hd:=(zIy hhp h32).2
     rw[p2] at h5
     unfold stM
     rw[if_neg (by omega),if_pos h5,if_neg p1,if_pos p2,zcd h32]
     omega
   · by_cases p3:wd ws 16=3
     · have e:zac ws=zdg ws:=by unfold zac;rw[if_pos hck,if_neg p1,if_neg p2,if_pos p3]
       rw[e] at h ⊢
       have fin:∀ (f:Nat) (l:List En),zdg ws=(0,⟨17,f⟩ :: l)→zkp f=true→f≤ws.length→wd ws 17<f→l.length≤31→l.Pairwise (fun a b=>a.a<b.a)→(∀ e ∈ l,112≤e.a∧e.a<(ws.length:Int))→(∀ e ∈ l,e.v<18446744073709551616) →
           zao ws=0∧Small ws.length (zdg ws).2∧zcs (zag ws (zdg ws).2)=0∧onW ws (zag ws (zdg ws).2)∧(wd (zag ws (zdg ws).2) 16=wd ws 16→stM (zag ws (zdg ws).2)<stM ws)∧(1≤wd ws 16∧wd ws 16≤4)∧wd (zag ws (zdg ws).2) 16≤wd ws 16+1∧(wd ws 16=4→wd (zag ws (zdg ws).2) 16=4):=by
         intro f l e2 f1 f2 f3 f4 f5 f6 f7
         rw[e2]
         dsimp only
         obtain ⟨g1,g2,g3,g4,g5,g6⟩:=zii hck p3 f1 f2 (by omega) f4 f5 f6 f7
         refine ⟨hck,g1,g2,g3,fun h5 => ?_,by omega,by rw[g4];omega,fun h5=>by omega⟩
         unfold stM
         rw[g4,if_neg (by decide),if_neg (by decide),if_neg p1,if_neg p2,zau,g5]
         omega
       by_cases z:wd ws 17=0
       · have hfs:zey ws=0:=by
           by_cases h0:zey ws=0
           · exact h0
           · unfold zdg at h;rw[if_pos z,if_neg h0] at h;exact absurd h h0
         have e2:zdg ws=(0,⟨17,128⟩ :: zec ws):=by unfold zdg;rw[if_pos z,if_pos hfs]
         obtain ⟨-,-,-,-,-,-,-,q1,q2,q3,-⟩:=zip hfs
         exact fin 128 (zec ws) e2 (by decide) (by omega) (by omega) (by omega) q2 (fun e he=>by have:=(q1 e he).1;omega) (fun e he=>(q1 e he).2)
       · have e2:zdg ws=zkn ws (wd ws 17):=by unfold zdg;rw[if_neg z]
         have h':(zkn ws (wd ws 17)).1=0:=by rw[←e2];exact h
         rcases zos ws.length (wd ws 17) (by omega) l2 h' with h1|⟨m,m1,m2,m3,m4,m5,m6,m7,m8⟩
         · rw[e2,h1]
           dsimp only
           obtain ⟨g1,g2,g3,g4,g5,g6⟩:=zgd hck p3
           exact ⟨hck,g1,g2,g3,fun h5=>by rw[g4] at h5;omega,by omega,by rw[g4];omega,fun h5=>by omega⟩
         · obtain ⟨f,-,-,-,-,q5,-,-,-,q9⟩:=zhb m7
           have q6:=zF5 m7
           exact fin (m+szAt ws m) (zct ws (m:Int)) (by rw[e2,m8]) ((za7 _).2 (by omega)) m6 (by omega) (by omega) q9 (fun e he=>by have:=q6 e he;omega) (fun e he=>by have:=q6 e he;omega)
     · by_cases p4:wd ws 16=4
       · have e:zac ws=zes ws:=by unfold zac;rw[if_pos hck,if_neg p1,if_neg p2,if_neg p3,if_pos p4]
         rw[e] at h ⊢
         have hnx:zbj ws ((wd ws 17:Nat):Int)=0:=by
           by_cases h0:zbj ws ((wd ws 17:Nat):Int)=0
           · exact h0
           · unfold zes at h;rw[if_neg h0] at h;exact absurd h (by decide)
         obtain ⟨-,a1,a2,m,em,m1,m2,m3,m4,m5,m6,m7,m8,-⟩:=zfc hnx
         have hmv:zex ws (m:Int) ((wd ws 18:Nat):Int)=0:=by
           by_cases h0:zex ws (m:Int) ((wd ws 18:Nat):Int)=0
           · exact h0
           · unfold zes at h;rw[if_pos hnx,em,zaa,if_neg h0] at h;exact absurd h h0
         have e2:zes ws=(0,⟨17,m+szAt ws m⟩ :: ⟨18,wd ws 18+szAt ws m⟩ :: zix ws m (wd ws 18)):=by
           unfold zes
           rw[if_pos hnx,em,zaa,if_pos hmv,zba,show ((m:Int)+((szAt ws m:Nat):Int)).toNat=m+szAt ws m by omega,show (((wd ws 18:Nat):Int)+((szAt ws m:Nat):Int)).toNat=wd ws 18+szAt ws m by omega]
           unfold zi3
           rw[if_pos hmv,Int.toNat_natCast,Int.toNat_natCast]
         obtain ⟨a,u,n,ea,eu,en,n2,n10,hu,hua,han,hst,hlv,-,-,hun⟩:=zfy hmv
         have ea:a=m:=by omega
         have eu:u=wd ws 18:=by omega
         subst ea eu
         subst en
         have hfp:=(zcp _ _ _).1 hph
         have hin:zkp (wd ws 17)=true∧zkp (wd ws 18)=true∧wd ws 18≤wd ws 17:=by
           rcases hfp with h1|h1|h1
           · exact h1.2
           · omega
           · omega
         have i1:=(za7 _).1 hin.1
         have i2:=(za7 _).1 hin.2.1
         rw[e2]
         dsimp only
         obtain ⟨g1,g2,g3,g4,g5,g6⟩:=zne (f:=a+szAt ws a) (t:=wd ws 18+szAt ws a) (l:=zix ws a (wd ws 18)) hck p4 ((za7 _).2 (by omega)) ((za7 _).2 (by omega)) (by omega) (by omega) (by omega) (by omega) (by rw[zg8];omega) (by
             rw[List.pairwise_iff_getElem]
             intro i j hi hj hij
             rw[zf2,zf2];omega) (fun e he=>by
             obtain ⟨k,hk,rfl⟩:=List.getElem_of_mem he
             rw[zf2]
             rw[zg8] at hk
             omega) (ztj ho hun)
         refine ⟨hck,g1,g2,g3,fun h5 => ?_,by omega,by rw[g4];omega,fun h5=>g4⟩
         unfold stM
         rw[g4,if_neg (by decide),if_neg (by decide),if_neg p1,if_neg p2,zau,g5]
         omega
       · have e:zac ws=(6,[]):=by unfold zac;rw[if_pos hck,if_neg p1,if_neg p2,if_neg p3,if_neg p4]
         rw[e] at h
         exact absurd h (by decide)
noncomputable def zof (p:Nat):Nat→List Nat→Int × List (List En) × List Nat
 | 0,x=>(0,[],x)
 | f+1,x=>if wd x 16=p then (if (zac x).1=6 then (0,[],x) else if (zac x).1=0 then
  (if (zof p f (zag x (zac x).2)).1=0 then (0,(zac x).2 :: (zof p f (zag x (zac x).2)).2.1,(zof p f (zag x (zac x).2)).2.2) else ((zof p f (zag x (zac x).2)).1,[],[]))
  else ((zac x).1,[],[])) else (0,[],x)
noncomputable def mzS (p:Nat) (x:List Nat):Nat:=if wd x 16=p then stM x+1 else 0
theorem zdf {ws:List Nat} (ho:∀ x ∈ ws,x<18446744073709551616) (h:(zac ws).1=0):∀ x ∈ zag ws (zac ws).2,x<18446744073709551616:=zo7 _ _ ho (zlu ho h).2.1.val
theorem zfj {p:Nat} {x:List Nat} (ho:∀ v ∈ x,v<18446744073709551616) (hp:wd x 16=p) (h:(zac x).1=0):mzS p (zag x (zac x).2)<mzS p x:=by
 unfold mzS
 rw[if_pos hp]
 split
 · rename_i h1
   have:=(zlu ho h).2.2.2.2.1 (by rw[h1,hp])
   omega
 · omega
theorem zA8 {p:Nat}:∀ {f g:Nat} {x:List Nat},(∀ v ∈ x,v<18446744073709551616)→mzS p x≤f→mzS p x≤g→zof p f x=zof p g x:=by
 have key:∀ n,∀ f g x,(∀ v ∈ x,v<18446744073709551616)→mzS p x≤n→mzS p x≤f→mzS p x≤g→zof p f x=zof p g x:=by
  intro n
  induction n with
  | zero =>
   intro f g x ho h0 hf hg
   have hp:¬ wd x 16=p:=fun hp=>by unfold mzS at h0;rw[if_pos hp] at h0;omega
   cases f with
   | zero =>
     cases g with
     | zero=>rfl
     | succ g=>simp only[zof];rw[if_neg hp]
   | succ f =>
     cases g with
     | zero=>simp only[zof];rw[if_neg hp]
     | succ g=>simp only[zof];rw[if_neg hp,if_neg hp]
  | succ n ih =>
   intro f g x ho h0 hf hg
   by_cases hp:wd x 16=p
   · have h1:0<mzS p x:=by unfold mzS;rw[if_pos hp];omega
     obtain ⟨f,rfl⟩:∃ f',f=f'+1:=⟨f - 1,by omega⟩
     obtain ⟨g,rfl⟩:∃ g',g=g'+1:=⟨g - 1,by omega⟩
     simp only[zof]
     by_cases h2:(zac x).1=0
     · have hd:=zfj ho hp h2
       rw[ih f g (zag x (zac x).2) (zdf ho h2) (by omega) (by omega) (by omega)]
     · simp only[h2,if_false]
   · cases f with
     | zero =>
       cases g with
       | zero=>rfl
       | succ g=>simp only[zof];rw[if_neg hp]
     | succ f =>
       cases g with
       | zero=>simp only[zof];rw[if_neg hp]
       | succ g=>simp only[zof];rw[if_neg hp,if_neg hp]
 intro f g x ho hf hg
 exact key _ f g x ho (Nat.le_refl _) hf hg
noncomputable def zc7 (p:Nat) (x:List Nat):Int × List (List En) × List Nat:=zof p (mzS p x) x
theorem zcj {p:Nat} {x:List Nat} (h:wd x 16≠p):zc7 p x=(0,[],x):=by
 unfold zc7 mzS
 rw[if_neg h];rfl
theorem zjl {p:Nat} {x:List Nat} (hp:wd x 16=p) (h:(zac x).1=6):zc7 p x=(0,[],x):=by
 unfold zc7 mzS
 rw[if_pos hp]
 simp only[zof]
 rw[if_pos hp,if_pos h]
theorem zqe {p:Nat} {x:List Nat} (hp:wd x 16=p) (h:(zac x).1≠6) (h2:(zac x).1≠0):zc7 p x=((zac x).1,[],[]):=by
 unfold zc7 mzS
 rw[if_pos hp]
 simp only[zof]
 rw[if_pos hp,if_neg h,if_neg h2]
theorem zdp {p:Nat} {x:List Nat} (ho:∀ v ∈ x,v<18446744073709551616) (hp:wd x 16=p) (h:(zac x).1=0):zc7 p x=(if (zc7 p (zag x (zac x).2)).1=0 then (0,(zac x).2 :: (zc7 p (zag x (zac x).2)).2.1,(zc7 p (zag x (zac x).2)).2.2) else ((zc7 p (zag x (zac x).2)).1,[],[])):=by
 have hd:=zfj ho hp h
 have hm:mzS p x=stM x+1:=by unfold mzS;rw[if_pos hp]
 have e:zof p (stM x) (zag x (zac x).2)=zc7 p (zag x (zac x).2):=zA8 (zdf ho h) (by omega) (Nat.le_refl _)
 conv=>lhs;unfold zc7
 rw[hm]
 simp only[zof]
 rw[if_pos hp,if_neg (by rw[h];decide),if_pos h,e]
end Go.Proofs.YtpcajamacpbjcaaGreat
