/- Texts laid together: LyE LyF LyG LyH. -/
import Derived.Test.YtpcajamacpbjcaaGreatZKLy1
import Derived.Test.YtpcajamacpbjcaaGreatZKCp2
import Derived.Laws.EntriesVeiled
namespace Go.Proofs.YtpcajamacpbjcaaGreat
open Lib (hid)
open Go.RowKit Go.Maps
section
set_option maxRecDepth 100000
set_option maxHeartbeats 4000000
theorem ztr (A TA SA OA:Option Addr) (O:List Bk) (p:Bk→Bool) (c n tc tn sc sn oc on mb:Nat) (w:World) (ho:O.length=on) (hm:on≤1000000) (hO:RdB w w.heap.size OA O)
  (HF:∀ k (h:k<O.length) W,Below w.heap.size w W→Calls Tryz.prog 95 #[.agg #[.slice A n c,.slice TA tn tc,.slice SA sn sc,.slice OA on oc,.map (some mb)],O[k].val] W fun e w'=>e=.returned (.bool (p O[k]))∧Below W.heap.size W w') :
  Calls Tryz.prog 100 #[.agg #[.slice A n c,.slice TA tn tc,.slice SA sn sc,.slice OA on oc,.map (some mb)],.func (.func 95) #[.agg #[.slice A n c,.slice TA tn tc,.slice SA sn sc,.slice OA on oc,.map (some mb)]] #[]] w fun e w'=>e=.returned (.bool (O.all p))∧Below w.heap.size w w':=by
 subst ho
 have XS:=hid (Bx.new w 163 #[.slice A n c,.slice TA tn tc,.slice SA sn sc,.slice OA O.length oc,.map (some mb)])
 have HB:=hid ((Below.refl w.heap.size w).alloc (Nat.le_refl _) (.cells #[.slice A n c,.slice TA tn tc,.slice SA sn sc,.slice OA O.length oc,.map (some mb)] 163))
 have HR:=hid hO
 have HFF:=hid HF
 have HA:Hid ((∀ j (h:j<O.length),p O[j]=true)→O.all p=true):=hid fun h=>List.all_eq_true.2 fun x hx=>by
  obtain ⟨j,hj,rfl⟩:=List.getElem_of_mem hx
  exact h j hj
 have HN:Hid (∀ j (h:j<O.length),p O[j]=false→O.all p=false):=hid fun j hj h=>by
  cases hq:O.all p with
  | false=>rfl
  | true=>rw[List.all_eq_true.1 hq _ (List.getElem_mem hj)] at h;cases h
 obtain ⟨W0,hW0⟩:∃ W0,w.alloc (.cells #[.slice A n c,.slice TA tn tc,.slice SA sn sc,.slice OA O.length oc,.map (some mb)] 163)=W0:=⟨_,rfl⟩
 have HBW:=hid (show Below w.heap.size w W0 by rw[←hW0];exact HB.out)
 rw[hW0] at XS
 obtain ⟨q0,q1,q2,q3,q4,-,-⟩:=XS.out.c5
 clear hO HF XS HB
 go_enter Tryz.func100,Tryz.ntmps100
 go_wp2_with fail
 clear hW0
 go_loopw [10] (fun i wr=>∃ k:Nat,k≤O.length∧i=.int .i64 k∧Hid (∀ j (h:j<O.length),j<k→p O[j]=true)∧Below w.heap.size w wr) (fun i _=>O.length - (intOf i).toNat)
 case atStart=>exact ⟨0,Nat.zero_le _,rfl,hid fun j _ h=>absurd h (by omega),HBW.out⟩
 case round =>
  obtain ⟨k,hk,rfl,HP,hB⟩:=hrel
  have hz:=hB.size
  by_cases hlt:k<O.length
  · obtain ⟨b,off,rfl,hb,p0,p1,p2,p3,p4,p5⟩:=RdB.at_ (Rd.below HR.out hB) hlt
    have HC:=hid (HFF.out k hlt)
    have HPN:Hid (p O[k]=true→∀ j (h:j<O.length),j<k+1→p O[j]=true):=hid fun h1 j hj h=>by
      rcases Nat.lt_or_ge j k with h2|h2
      · exact HP.out j hj h2
      · have:j=k:=by omega
        subst this;exact h1
    have HBD:=hid (HN.out k hlt)
    obtain ⟨x,hx⟩:∃ x,O[k]=x:=⟨_,rfl⟩
    rw[hx] at p0 p1 p2 p3 p4 p5 HC HPN HBD
    obtain ⟨q,hq⟩:∃ q,p x=q:=⟨_,rfl⟩
    rw[hq] at HC HPN HBD
    obtain ⟨xa,xs,xk,xt,xm,xn⟩:=x
    dsimp only[Bk.val] at p0 p1 p2 p3 p4 p5 HC
    have hki:(k:Int)<(O.length:Int):=by omega
    have hk0:(0:Int)≤(k:Int):=by omega
    have HB1:=hid (hB.alloc hz (.cells #[.int .i64 xa,.int .i64 xs,.int .i64 xk,.int .i64 xt,.bool xm,.int .u64 (xn:Int)] 55))
    clear hx hq hb
    cases q
    · have HV:=hid (HBD.out rfl)
      go_wp2_with fail
      refine (HC.out _ HB1.out).mono ?_
      rintro e w5 ⟨rfl,hB5⟩
      have HB5:=hid (HB1.out.trans (hB5.mono HB1.out.size))
      clear hB5
      go_wp2_with fail
      go_ret
      exact ⟨by rw[HV.out];rfl,HB5.out⟩
    · have HV:=hid (HPN.out rfl)
      go_wp2_with fail
      refine (HC.out _ HB1.out).mono ?_
      rintro e w5 ⟨rfl,hB5⟩
      have HB5:=hid (HB1.out.trans (hB5.mono HB1.out.size))
      clear hB5
      go_wp2_with fail
      go_roundw
      case rel=>exact ⟨k+1,by omega,by go_num,HV,HB5.out⟩
      case measure=>simp[intOf];omega
  · have hkl:k=O.length:=by omega
    have HV:=hid (HA.out fun j hj=>HP.out j hj (by omega))
    have hend:decide ((k:Int)<(O.length:Int))=false:=by rw[decide_eq_false_iff_not];omega
    have hendn:decide (k<O.length)=false:=by rw[decide_eq_false_iff_not];exact hlt
    clear hkl hlt hk
    go_wp2_with fail
    go_ret
    exact ⟨by rw[HV.out];rfl,hB⟩
theorem zrj (A TA SA OA:Option Addr) (O:List Bk) (p:Bk→Bool) (c n tc tn sc sn oc on mb:Nat) (w:World) (ho:O.length=on) (hm:on≤1000000) (hO:RdB w w.heap.size OA O)
  (HF:∀ k (h:k<O.length) W,Below w.heap.size w W→Calls Tryz.prog 96 #[.agg #[.slice A n c,.slice TA tn tc,.slice SA sn sc,.slice OA on oc,.map (some mb)],O[k].val] W fun e w'=>e=.returned (.bool (p O[k]))∧Below W.heap.size W w') :
  Calls Tryz.prog 100 #[.agg #[.slice A n c,.slice TA tn tc,.slice SA sn sc,.slice OA on oc,.map (some mb)],.func (.func 96) #[.agg #[.slice A n c,.slice TA tn tc,.slice SA sn sc,.slice OA on oc,.map (some mb)]] #[]] w fun e w'=>e=.returned (.bool (O.all p))∧Below w.heap.size w w':=by
 subst ho
 have XS:=hid (Bx.new w 163 #[.slice A n c,.slice TA tn tc,.slice SA sn sc,.slice OA O.length oc,.map (some mb)])
 have HB:=hid ((Below.refl w.heap.size w).alloc (Nat.le_refl _) (.cells #[.slice A n c,.slice TA tn tc,.slice SA sn sc,.slice OA O.length oc,.map (some mb)] 163))
 have HR:=hid hO
 have HFF:=hid HF
 have HA:Hid ((∀ j (h:j<O.length),p O[j]=true)→O.all p=true):=hid fun h=>List.all_eq_true.2 fun x hx=>by
  obtain ⟨j,hj,rfl⟩:=List.getElem_of_mem hx
  exact h j hj
 have HN:Hid (∀ j (h:j<O.length),p O[j]=false→O.all p=false):=hid fun j hj h=>by
  cases hq:O.all p with
  | false=>rfl
  | true=>rw[List.all_eq_true.1 hq _ (List.getElem_mem hj)] at h;cases h
 obtain ⟨W0,hW0⟩:∃ W0,w.alloc (.cells #[.slice A n c,.slice TA tn tc,.slice SA sn sc,.slice OA O.length oc,.map (some mb)] 163)=W0:=⟨_,rfl⟩
 have HBW:=hid (show Below w.heap.size w W0 by rw[←hW0];exact HB.out)
 rw[hW0] at XS
 obtain ⟨q0,q1,q2,q3,q4,-,-⟩:=XS.out.c5
 clear hO HF XS HB
 go_enter Tryz.func100,Tryz.ntmps100
 go_wp2_with fail
 clear hW0
 go_loopw [10] (fun i wr=>∃ k:Nat,k≤O.length∧i=.int .i64 k∧Hid (∀ j (h:j<O.length),j<k→p O[j]=true)∧Below w.heap.size w wr) (fun i _=>O.length - (intOf i).toNat)
 case atStart=>exact ⟨0,Nat.zero_le _,rfl,hid fun j _ h=>absurd h (by omega),HBW.out⟩
 case round =>
  obtain ⟨k,hk,rfl,HP,hB⟩:=hrel
  have hz:=hB.size
  by_cases hlt:k<O.length
  · obtain ⟨b,off,rfl,hb,p0,p1,p2,p3,p4,p5⟩:=RdB.at_ (Rd.below HR.out hB) hlt
    have HC:=hid (HFF.out k hlt)
    have HPN:Hid (p O[k]=true→∀ j (h:j<O.length),j<k+1→p O[j]=true):=hid fun h1 j hj h=>by
      rcases Nat.lt_or_ge j k with h2|h2
      · exact HP.out j hj h2
      · have:j=k:=by omega
        subst this;exact h1
    have HBD:=hid (HN.out k hlt)
    obtain ⟨x,hx⟩:∃ x,O[k]=x:=⟨_,rfl⟩
    rw[hx] at p0 p1 p2 p3 p4 p5 HC HPN HBD
    obtain ⟨q,hq⟩:∃ q,p x=q:=⟨_,rfl⟩
    rw[hq] at HC HPN HBD
    obtain ⟨xa,xs,xk,xt,xm,xn⟩:=x
    dsimp only[Bk.val] at p0 p1 p2 p3 p4 p5 HC
    have hki:(k:Int)<(O.length:Int):=by omega
    have hk0:(0:Int)≤(k:Int):=by omega
    have HB1:=hid (hB.alloc hz (.cells #[.int .i64 xa,.int .i64 xs,.int .i64 xk,.int .i64 xt,.bool xm,.int .u64 (xn:Int)] 55))
    clear hx hq hb
    cases q
    · have HV:=hid (HBD.out rfl)
      go_wp2_with fail
      refine (HC.out _ HB1.out).mono ?_
      rintro e w5 ⟨rfl,hB5⟩
      have HB5:=hid (HB1.out.trans (hB5.mono HB1.out.size))
      clear hB5
      go_wp2_with fail
      go_ret
      exact ⟨by rw[HV.out];rfl,HB5.out⟩
    · have HV:=hid (HPN.out rfl)
      go_wp2_with fail
      refine (HC.out _ HB1.out).mono ?_
      rintro e w5 ⟨rfl,hB5⟩
      have HB5:=hid (HB1.out.trans (hB5.mono HB1.out.size))
      clear hB5
      go_wp2_with fail
      go_roundw
      case rel=>exact ⟨k+1,by omega,by go_num,HV,HB5.out⟩
      case measure=>simp[intOf];omega
  · have hkl:k=O.length:=by omega
    have HV:=hid (HA.out fun j hj=>HP.out j hj (by omega))
    have hend:decide ((k:Int)<(O.length:Int))=false:=by rw[decide_eq_false_iff_not];omega
    have hendn:decide (k<O.length)=false:=by rw[decide_eq_false_iff_not];exact hlt
    clear hkl hlt hk
    go_wp2_with fail
    go_ret
    exact ⟨by rw[HV.out];rfl,hB⟩
theorem zqk (A TA SA OA:Option Addr) (O:List Bk) (p:Bk→Bool) (c n tc tn sc sn oc on mb:Nat) (w:World) (ho:O.length=on) (hm:on≤1000000) (hO:RdB w w.heap.size OA O)
  (HF:∀ k (h:k<O.length) W,Below w.heap.size w W→Calls Tryz.prog 97 #[.agg #[.slice A n c,.slice TA tn tc,.slice SA sn sc,.slice OA on oc,.map (some mb)],O[k].val] W fun e w'=>e=.returned (.bool (p O[k]))∧Below W.heap.size W w') :
  Calls Tryz.prog 100 #[.agg #[.slice A n c,.slice TA tn tc,.slice SA sn sc,.slice OA on oc,.map (some mb)],.func (.func 97) #[.agg #[.slice A n c,.slice TA tn tc,.slice SA sn sc,.slice OA on oc,.map (some mb)]] #[]] w fun e w'=>e=.returned (.bool (O.all p))∧Below w.heap.size w w':=by
 subst ho
 have XS:=hid (Bx.new w 163 #[.slice A n c,.slice TA tn tc,.slice SA sn sc,.slice OA O.length oc,.map (some mb)])
 have HB:=hid ((Below.refl w.heap.size w).alloc (Nat.le_refl _) (.cells #[.slice A n c,.slice TA tn tc,.slice SA sn sc,.slice OA O.length oc,.map (some mb)] 163))
 have HR:=hid hO
 have HFF:=hid HF
 have HA:Hid ((∀ j (h:j<O.length),p O[j]=true)→O.all p=true):=hid fun h=>List.all_eq_true.2 fun x hx=>by
  obtain ⟨j,hj,rfl⟩:=List.getElem_of_mem hx
  exact h j hj
 have HN:Hid (∀ j (h:j<O.length),p O[j]=false→O.all p=false):=hid fun j hj h=>by
  cases hq:O.all p with
  | false=>rfl
  | true=>rw[List.all_eq_true.1 hq _ (List.getElem_mem hj)] at h;cases h
 obtain ⟨W0,hW0⟩:∃ W0,w.alloc (.cells #[.slice A n c,.slice TA tn tc,.slice SA sn sc,.slice OA O.length oc,.map (some mb)] 163)=W0:=⟨_,rfl⟩
 have HBW:=hid (show Below w.heap.size w W0 by rw[←hW0];exact HB.out)
 rw[hW0] at XS
 obtain ⟨q0,q1,q2,q3,q4,-,-⟩:=XS.out.c5
 clear hO HF XS HB
 go_enter Tryz.func100,Tryz.ntmps100
 go_wp2_with fail
 clear hW0
 go_loopw [10] (fun i wr=>∃ k:Nat,k≤O.length∧i=.int .i64 k∧Hid (∀ j (h:j<O.length),j<k→p O[j]=true)∧Below w.heap.size w wr) (fun i _=>O.length - (intOf i).toNat)
 case atStart=>exact ⟨0,Nat.zero_le _,rfl,hid fun j _ h=>absurd h (by omega),HBW.out⟩
 case round =>
  obtain ⟨k,hk,rfl,HP,hB⟩:=hrel
  have hz:=hB.size
  by_cases hlt:k<O.length
  · obtain ⟨b,off,rfl,hb,p0,p1,p2,p3,p4,p5⟩:=RdB.at_ (Rd.below HR.out hB) hlt
    have HC:=hid (HFF.out k hlt)
    have HPN:Hid (p O[k]=true→∀ j (h:j<O.length),j<k+1→p O[j]=true):=hid fun h1 j hj h=>by
      rcases Nat.lt_or_ge j k with h2|h2
      · exact HP.out j hj h2
      · have:j=k:=by omega
        subst this;exact h1
    have HBD:=hid (HN.out k hlt)
    obtain ⟨x,hx⟩:∃ x,O[k]=x:=⟨_,rfl⟩
    rw[hx] at p0 p1 p2 p3 p4 p5 HC HPN HBD
    obtain ⟨q,hq⟩:∃ q,p x=q:=⟨_,rfl⟩
    rw[hq] at HC HPN HBD
    obtain ⟨xa,xs,xk,xt,xm,xn⟩:=x
    dsimp only[Bk.val] at p0 p1 p2 p3 p4 p5 HC
    have hki:(k:Int)<(O.length:Int):=by omega
    have hk0:(0:Int)≤(k:Int):=by omega
    have HB1:=hid (hB.alloc hz (.cells #[.int .i64 xa,.int .i64 xs,.int .i64 xk,.int .i64 xt,.bool xm,.int .u64 (xn:Int)] 55))
    clear hx hq hb
    cases q
    · have HV:=hid (HBD.out rfl)
      go_wp2_with fail
      refine (HC.out _ HB1.out).mono ?_
      rintro e w5 ⟨rfl,hB5⟩
      have HB5:=hid (HB1.out.trans (hB5.mono HB1.out.size))
      clear hB5
      go_wp2_with fail
      go_ret
      exact ⟨by rw[HV.out];rfl,HB5.out⟩
    · have HV:=hid (HPN.out rfl)
      go_wp2_with fail
      refine (HC.out _ HB1.out).mono ?_
      rintro e w5 ⟨rfl,hB5⟩
      have HB5:=hid (HB1.out.trans (hB5.mono HB1.out.size))
      clear hB5
      go_wp2_with fail
      go_roundw
      case rel=>exact ⟨k+1,by omega,by go_num,HV,HB5.out⟩
      case measure=>simp[intOf];omega
  · have hkl:k=O.length:=by omega
    have HV:=hid (HA.out fun j hj=>HP.out j hj (by omega))
    have hend:decide ((k:Int)<(O.length:Int))=false:=by rw[decide_eq_false_iff_not];omega
    have hendn:decide (k<O.length)=false:=by rw[decide_eq_false_iff_not];exact hlt
    clear hkl hlt hk
    go_wp2_with fail
    go_ret
    exact ⟨by rw[HV.out];rfl,hB⟩
theorem zp0 (A TA SA OA:Option Addr) (O:List Bk) (p:Bk→Bool) (c n tc tn sc sn oc on mb:Nat) (w:World) (ho:O.length=on) (hm:on≤1000000) (hO:RdB w w.heap.size OA O)
  (HF:∀ k (h:k<O.length) W,Below w.heap.size w W→Calls Tryz.prog 98 #[.agg #[.slice A n c,.slice TA tn tc,.slice SA sn sc,.slice OA on oc,.map (some mb)],O[k].val] W fun e w'=>e=.returned (.bool (p O[k]))∧Below W.heap.size W w') :
  Calls Tryz.prog 100 #[.agg #[.slice A n c,.slice TA tn tc,.slice SA sn sc,.slice OA on oc,.map (some mb)],.func (.func 98) #[.agg #[.slice A n c,.slice TA tn tc,.slice SA sn sc,.slice OA on oc,.map (some mb)]] #[]] w fun e w'=>e=.returned (.bool (O.all p))∧Below w.heap.size w w':=by
 subst ho
 have XS:=hid (Bx.new w 163 #[.slice A n c,.slice TA tn tc,.slice SA sn sc,.slice OA O.length oc,.map (some mb)])
 have HB:=hid ((Below.refl w.heap.size w).alloc (Nat.le_refl _) (.cells #[.slice A n c,.slice TA tn tc,.slice SA sn sc,.slice OA O.length oc,.map (some mb)] 163))
 have HR:=hid hO
 have HFF:=hid HF
 have HA:Hid ((∀ j (h:j<O.length),p O[j]=true)→O.all p=true):=hid fun h=>List.all_eq_true.2 fun x hx=>by
  obtain ⟨j,hj,rfl⟩:=List.getElem_of_mem hx
  exact h j hj
 have HN:Hid (∀ j (h:j<O.length),p O[j]=false→O.all p=false):=hid fun j hj h=>by
  cases hq:O.all p with
  | false=>rfl
  | true=>rw[List.all_eq_true.1 hq _ (List.getElem_mem hj)] at h;cases h
 obtain ⟨W0,hW0⟩:∃ W0,w.alloc (.cells #[.slice A n c,.slice TA tn tc,.slice SA sn sc,.slice OA O.length oc,.map (some mb)] 163)=W0:=⟨_,rfl⟩
 have HBW:=hid (show Below w.heap.size w W0 by rw[←hW0];exact HB.out)
 rw[hW0] at XS
 obtain ⟨q0,q1,q2,q3,q4,-,-⟩:=XS.out.c5
 clear hO HF XS HB
 go_enter Tryz.func100,Tryz.ntmps100
 go_wp2_with fail
 clear hW0
 go_loopw [10] (fun i wr=>∃ k:Nat,k≤O.length∧i=.int .i64 k∧Hid (∀ j (h:j<O.length),j<k→p O[j]=true)∧Below w.heap.size w wr) (fun i _=>O.length - (intOf i).toNat)
 case atStart=>exact ⟨0,Nat.zero_le _,rfl,hid fun j _ h=>absurd h (by omega),HBW.out⟩
 case round =>
  obtain ⟨k,hk,rfl,HP,hB⟩:=hrel
  have hz:=hB.size
  by_cases hlt:k<O.length
  · obtain ⟨b,off,rfl,hb,p0,p1,p2,p3,p4,p5⟩:=RdB.at_ (Rd.below HR.out hB) hlt
    have HC:=hid (HFF.out k hlt)
    have HPN:Hid (p O[k]=true→∀ j (h:j<O.length),j<k+1→p O[j]=true):=hid fun h1 j hj h=>by
      rcases Nat.lt_or_ge j k with h2|h2
      · exact HP.out j hj h2
      · have:j=k:=by omega
        subst this;exact h1
    have HBD:=hid (HN.out k hlt)
    obtain ⟨x,hx⟩:∃ x,O[k]=x:=⟨_,rfl⟩
    rw[hx] at p0 p1 p2 p3 p4 p5 HC HPN HBD
    obtain ⟨q,hq⟩:∃ q,p x=q:=⟨_,rfl⟩
    rw[hq] at HC HPN HBD
    obtain ⟨xa,xs,xk,xt,xm,xn⟩:=x
    dsimp only[Bk.val] at p0 p1 p2 p3 p4 p5 HC
    have hki:(k:Int)<(O.length:Int):=by omega
    have hk0:(0:Int)≤(k:Int):=by omega
    have HB1:=hid (hB.alloc hz (.cells #[.int .i64 xa,.int .i64 xs,.int .i64 xk,.int .i64 xt,.bool xm,.int .u64 (xn:Int)] 55))
    clear hx hq hb
    cases q
    · have HV:=hid (HBD.out rfl)
      go_wp2_with fail
      refine (HC.out _ HB1.out).mono ?_
      rintro e w5 ⟨rfl,hB5⟩
      have HB5:=hid (HB1.out.trans (hB5.mono HB1.out.size))
      clear hB5
      go_wp2_with fail
      go_ret
      exact ⟨by rw[HV.out];rfl,HB5.out⟩
    · have HV:=hid (HPN.out rfl)
      go_wp2_with fail
      refine (HC.out _ HB1.out).mono ?_
      rintro e w5 ⟨rfl,hB5⟩
      have HB5:=hid (HB1.out.trans (hB5.mono HB1.out.size))
      clear hB5
      go_wp2_with fail
      go_roundw
      case rel=>exact ⟨k+1,by omega,by go_num,HV,HB5.out⟩
      case measure=>simp[intOf];omega
  · have hkl:k=O.length:=by omega
    have HV:=hid (HA.out fun j hj=>HP.out j hj (by omega))
    have hend:decide ((k:Int)<(O.length:Int))=false:=by rw[decide_eq_false_iff_not];omega
    have hendn:decide (k<O.length)=false:=by rw[decide_eq_false_iff_not];exact hlt
    clear hkl hlt hk
    go_wp2_with fail
    go_ret
    exact ⟨by rw[HV.out];rfl,hB⟩
theorem ztt (A TA SA OA:Option Addr) (O:List Bk) (p:Bk→Bool) (c n tc tn sc sn oc on mb:Nat) (w:World) (ho:O.length=on) (hm:on≤1000000) (hO:RdB w w.heap.size OA O)
  (HF:∀ k (h:k<O.length) W,Below w.heap.size w W→Calls Tryz.prog 99 #[.agg #[.slice A n c,.slice TA tn tc,.slice SA sn sc,.slice OA on oc,.map (some mb)],O[k].val] W fun e w'=>e=.returned (.bool (p O[k]))∧Below W.heap.size W w') :
  Calls Tryz.prog 100 #[.agg #[.slice A n c,.slice TA tn tc,.slice SA sn sc,.slice OA on oc,.map (some mb)],.func (.func 99) #[.agg #[.slice A n c,.slice TA tn tc,.slice SA sn sc,.slice OA on oc,.map (some mb)]] #[]] w fun e w'=>e=.returned (.bool (O.all p))∧Below w.heap.size w w':=by
 subst ho
 have XS:=hid (Bx.new w 163 #[.slice A n c,.slice TA tn tc,.slice SA sn sc,.slice OA O.length oc,.map (some mb)])
 have HB:=hid ((Below.refl w.heap.size w).alloc (Nat.le_refl _) (.cells #[.slice A n c,.slice TA tn tc,.slice SA sn sc,.slice OA O.length oc,.map (some mb)] 163))
 have HR:=hid hO
 have HFF:=hid HF
 have HA:Hid ((∀ j (h:j<O.length),p O[j]=true)→O.all p=true):=hid fun h=>List.all_eq_true.2 fun x hx=>by
  obtain ⟨j,hj,rfl⟩:=List.getElem_of_mem hx
  exact h j hj
 have HN:Hid (∀ j (h:j<O.length),p O[j]=false→O.all p=false):=hid fun j hj h=>by
  cases hq:O.all p with
  | false=>rfl
  | true=>rw[List.all_eq_true.1 hq _ (List.getElem_mem hj)] at h;cases h
 obtain ⟨W0,hW0⟩:∃ W0,w.alloc (.cells #[.slice A n c,.slice TA tn tc,.slice SA sn sc,.slice OA O.length oc,.map (some mb)] 163)=W0:=⟨_,rfl⟩
 have HBW:=hid (show Below w.heap.size w W0 by rw[←hW0];exact HB.out)
 rw[hW0] at XS
 obtain ⟨q0,q1,q2,q3,q4,-,-⟩:=XS.out.c5
 clear hO HF XS HB
 go_enter Tryz.func100,Tryz.ntmps100
 go_wp2_with fail
 clear hW0
 go_loopw [10] (fun i wr=>∃ k:Nat,k≤O.length∧i=.int .i64 k∧Hid (∀ j (h:j<O.length),j<k→p O[j]=true)∧Below w.heap.size w wr) (fun i _=>O.length - (intOf i).toNat)
 case atStart=>exact ⟨0,Nat.zero_le _,rfl,hid fun j _ h=>absurd h (by omega),HBW.out⟩
 case round =>
  obtain ⟨k,hk,rfl,HP,hB⟩:=hrel
  have hz:=hB.size
  by_cases hlt:k<O.length
  · obtain ⟨b,off,rfl,hb,p0,p1,p2,p3,p4,p5⟩:=RdB.at_ (Rd.below HR.out hB) hlt
    have HC:=hid (HFF.out k hlt)
    have HPN:Hid (p O[k]=true→∀ j (h:j<O.length),j<k+1→p O[j]=true):=hid fun h1 j hj h=>by
      rcases Nat.lt_or_ge j k with h2|h2
      · exact HP.out j hj h2
      · have:j=k:=by omega
        subst this;exact h1
    have HBD:=hid (HN.out k hlt)
    obtain ⟨x,hx⟩:∃ x,O[k]=x:=⟨_,rfl⟩
    rw[hx] at p0 p1 p2 p3 p4 p5 HC HPN HBD
    obtain ⟨q,hq⟩:∃ q,p x=q:=⟨_,rfl⟩
    rw[hq] at HC HPN HBD
    obtain ⟨xa,xs,xk,xt,xm,xn⟩:=x
    dsimp only[Bk.val] at p0 p1 p2 p3 p4 p5 HC
    have hki:(k:Int)<(O.length:Int):=by omega
    have hk0:(0:Int)≤(k:Int):=by omega
    have HB1:=hid (hB.alloc hz (.cells #[.int .i64 xa,.int .i64 xs,.int .i64 xk,.int .i64 xt,.bool xm,.int .u64 (xn:Int)] 55))
    clear hx hq hb
    cases q
    · have HV:=hid (HBD.out rfl)
      go_wp2_with fail
      refine (HC.out _ HB1.out).mono ?_
      rintro e w5 ⟨rfl,hB5⟩
      have HB5:=hid (HB1.out.trans (hB5.mono HB1.out.size))
      clear hB5
      go_wp2_with fail
      go_ret
      exact ⟨by rw[HV.out];rfl,HB5.out⟩
    · have HV:=hid (HPN.out rfl)
      go_wp2_with fail
      refine (HC.out _ HB1.out).mono ?_
      rintro e w5 ⟨rfl,hB5⟩
      have HB5:=hid (HB1.out.trans (hB5.mono HB1.out.size))
      clear hB5
      go_wp2_with fail
      go_roundw
      case rel=>exact ⟨k+1,by omega,by go_num,HV,HB5.out⟩
      case measure=>simp[intOf];omega
  · have hkl:k=O.length:=by omega
    have HV:=hid (HA.out fun j hj=>HP.out j hj (by omega))
    have hend:decide ((k:Int)<(O.length:Int))=false:=by rw[decide_eq_false_iff_not];omega
    have hendn:decide (k<O.length)=false:=by rw[decide_eq_false_iff_not];exact hlt
    clear hkl hlt hk
    go_wp2_with fail
    go_ret
    exact ⟨by rw[HV.out];rfl,hB⟩
end
end Go.Proofs.YtpcajamacpbjcaaGreat
namespace Go.Proofs.YtpcajamacpbjcaaGreat
open Lib (hid)
open Go.RowKit Go.Maps
theorem zvo:(Tryz.prog.info? 163).map (·.size)=some 5:=by kernel_rfl
theorem zeroSg (w:World):(zeroValue 163).run Tryz.prog w=.ok (.agg #[.slice none 0 0,.slice none 0 0,.slice none 0 0,.slice none 0 0,.map none]) w:=by kernel_rfl
theorem ze1 {fn:Func} {p q:Tmp} (h:fn.results=#[.cell p 163,.tmp q]) (tmps:Array Value) {W:World} {g:Nat} {t:TypeId} {cs:Array Value} {u:Value} (hb:Bx W g t cs) (hs:cs.size=5) (hp:tmps.getD p undef=.pointer (some ⟨g,0,none⟩)) (hq:tmps.getD q undef=u) :
  (results fn tmps).run Tryz.prog W=.ok (.tuple #[.agg cs,u]) W:=by
 have hp':tmps[p]?.getD undef=.pointer (some ⟨g,0,none⟩):=by simpa using hp
 have hq':tmps[q]?.getD undef=u:=by simpa using hq
 have hi:(Tryz.prog.info? 163).map (·.size)=some cs.size:=by rw[hs];exact zvo
 have hl:=run_loadVar_row W g t 163 cs (0,0) _ hb Tryz.underlying163 rfl hi
 simp[results,h,hp',hq',asAddr,hl]
structure PtOk (ws:List Nat) (A:Option Addr) (n c:Nat) (w':World) (sv:Array Value) (t:Nat) (l:List Bk):Prop where
 ty:tyN ws=some t
 bl:blocks ws 128=some l
 z1:zev ws 16=true
 z2:zev ws 24=true
 tys:zgg ws t=true
 sls:slsOk ws=true
 adj:ziw l=true
 mem:∃ (TA SA OA:Option Addr) (tc sc oc mb:Nat) (L:List Ty),sv=#[.slice A n c,.slice TA L.length tc,.slice SA 16 sc,.slice OA (za1 l).length oc,.map (some mb)]∧RdL w' w'.heap.size TA L∧L.map Ty.l=zfl ws t 8∧RdS w' w'.heap.size SA (slL ws)∧RdB w' w'.heap.size OA (za1 l)∧w'.ownsMap Tryz.prog 3 (plainElem Tryz.prog 4) mb (za1 l).length (zgj ((za1 l).map Bk.at_) (za1 l).length)
def PtRes (ws:List Nat) (A:Option Addr) (n c:Nat) (e:Ending) (w':World):Prop:=∃ (r:Int) (sv:Array Value),e=.returned (.tuple #[.agg sv,.int .i64 r])∧0≤r∧(r≠0→lay ws=false∧sv=#[.slice none 0 0,.slice none 0 0,.slice none 0 0,.slice none 0 0,.map none])∧(r=0→∃ t l,PtOk ws A n c w' sv t l)
def zH0 (H:Nat) (ws:List Nat) (e:Ending) (w':World):Prop:=(zdi ws=0→∃ g,e=.returned (.tuple #[.slice (some ⟨g,0,none⟩) 16 16,.int .i64 (zdi ws)])∧H≤g∧Bx w' g 118 ((slL ws).flatMap Sl.cells).toArray)∧(zdi ws≠0→e=.returned (.tuple #[.slice none 0 0,.int .i64 (zdi ws)]))
set_option maxRecDepth 100000 in
set_option maxHeartbeats 4000000 in
theorem zIl (A:Option Addr) (ws:List Nat) (c n:Nat) (w:World) (hn:ws.length=n) (hm:n≤9223372036854775807) (hr:RdW w w.heap.size A ws) (ho:∀ x ∈ ws,x<18446744073709551616) :
   Calls Tryz.prog 25 #[.slice A n c] w fun e w'=>zH0 w.heap.size ws e w'∧Below w.heap.size w w':=by
 have HC:=hid (zA9 A ws c n w hn hm hr ho)
 clear hr ho hn hm
 have hz8:=zfv
 by_cases h0:zdi ws=0
 · have hout:zer ws=slL ws:=by simp[zer,h0]
   have HO:=hid (And.intro h0 hout)
   have hl:=zcy ws
   rw[h0,zJv h0] at HC
   have hs48:(zgn (slL ws)).size=48:=by rw[zgt,zcy]
   obtain ⟨l,hl2⟩:∃ l,slL ws=l:=⟨_,rfl⟩
   have HLQ:=hid hl2
   rw[hl2] at hs48 HC hl HO
   have HCS:Hid (zgn l=(l.flatMap Sl.cells).toArray):=hid rfl
   have H1:=hid (zj3 l)
   obtain ⟨cs,hcs⟩:∃ cs,zgn l=cs:=⟨_,rfl⟩
   rw[hcs] at HC hs48 HCS H1
   have hic:(Tryz.prog.info? 118).map (·.size)=some cs.size:=by rw[hs48];exact zjc
   clear h0 hout hl2 hcs hl hz8
   go_enter Tryz.func25,Tryz.ntmps25
   go_wp2_with fail
   refine HC.out.mono ?_
   rintro e w1 ⟨rfl,hB1⟩
   have hzv:=zmt
   have hss:cs.size=zbx.size:=by rw[hs48,zfv]
   have bz:=Bx.new w1 118 zbx
   have BZ:=hid bz
   have HB1:=hid (hB1.alloc hB1.size (.cells zbx 118))
   have hz1:=hB1.size
   clear bz hB1
   go_wp2_with (first
    | ((with_reducible refine zbu 118 (.tmp 4) _ ?_);refine zai rfl _ _ _ rfl w1.heap.size 118 zbx cs (by rfl) (by rfl) BZ.out hss hic H1.out ?_;intro w4 hb4 ha4;have HB4:=hid hb4;have HA4:=hid (ha4.below HB1.out hz1);clear hb4 ha4))
   go_ret2
   refine ⟨⟨fun _=>⟨w1.heap.size,by rw[HO.out.1];rfl,hz1,?_⟩,fun h=>absurd HO.out.1 h⟩,HA4.out⟩
   have:=HB4.out
   rw[HCS.out] at this
   rw[HLQ.out]
   exact this
 · have hout:zer ws=[]:=by simp[zer,h0]
   rw[zFb h0] at HC
   obtain ⟨r,hr⟩:∃ r,zdi ws=r:=⟨_,rfl⟩
   have HE:=hid hr
   rw[hr] at HC h0
   have H0:=hid h0
   have hrn:(r != 0)=true:=by rw[bne_iff_ne];exact h0
   have hz1:=hid zkw
   have hic:(Tryz.prog.info? 118).map (·.size)=some zbx.size:=by rw[hz8];exact zjc
   clear h0 hout hr hz8
   go_enter Tryz.func25,Tryz.ntmps25
   go_wp2_with fail
   refine HC.out.mono ?_
   rintro e w1 ⟨rfl,hB1⟩
   have hzv:=zmt
   have bz:=Bx.new w1 118 zbx
   have BZ:=hid bz
   have HB1:=hid (hB1.alloc hB1.size (.cells zbx 118))
   have hz1':=hB1.size
   clear bz hB1
   go_wp2_with (first
    | ((with_reducible refine zbu 118 (.tmp 4) _ ?_);refine zai rfl _ _ _ rfl w1.heap.size 118 zbx zbx (by rfl) (by rfl) BZ.out rfl hic hz1.out ?_;intro w4 hb4 ha4;have HB4:=hid hb4;have HA4:=hid (ha4.below HB1.out hz1');clear hb4 ha4))
   go_ret2
   exact ⟨⟨fun h=>absurd (HE.out.symm.trans h) H0.out,fun _=>by rw[HE.out];rfl⟩,HA4.out⟩
structure PtS (wr:World) (H0 H3 H7 gs:Nat) (ws:List Nat) (TB AW:Option Addr) (td cW:Nat) (L:List Ty) (l:List Bk):Prop where
 x:Bx wr H0 163 #[.slice none 0 0,.slice none 0 0,.slice none 0 0,.slice none 0 0,.map none]
 t:zut wr H3 (.slice TB L.length td) L
 s:Bx wr gs 118 ((slL ws).flatMap Sl.cells).toArray
 b:wr.ownsRow H7 55 6 (.slice AW l.length cW) l.length (l.flatMap Bk.cells)
section
variable {wr wr':World} {H0 H3 H7 gs:Nat} {ws:List Nat} {TB AW:Option Addr} {td cW:Nat} {L:List Ty} {l:List Bk}
theorem PtS.alloc (h:PtS wr H0 H3 H7 gs ws TB AW td cW L l) (o:Obj):PtS (wr.alloc o) H0 H3 H7 gs ws TB AW td cW L l:=
 ⟨h.x.alloc o,⟨h.t.1.alloc o,fun y hy=>(h.t.2 y hy).alloc o⟩,h.s.alloc o,h.b.alloc o⟩
theorem PtS.set_ (h:PtS wr H0 H3 H7 gs ws TB AW td cW L l) {p:Addr} (h0:H0≠p.block) (h3:p.block<H3) (h37:H3≤H7) (hg:H7≤gs) (u:Value):PtS (wr.setCell p u) H0 H3 H7 gs ws TB AW td cW L l:=
 ⟨h.x.far h0 u,⟨zc6 h.t.1 (zez h.t.1 h3).symm u,fun y hy=>zc6 (h.t.2 y hy) (zez (h.t.2 y hy) h3).symm u⟩,h.s.far (by omega) u,zc6 h.b (zez h.b (by omega)).symm u⟩
theorem PtS.grown (h:PtS wr H0 H3 H7 gs ws TB AW td cW L l) {row:Option Nat} (hg:wr.grownBy wr' row) (h0:some H0≠row) (hgs:some gs≠row) (h1:(Value.slice TB L.length td).ownBlock=none∨(Value.slice TB L.length td).ownBlock≠row) (h2:∀ y ∈ L,(Value.slice y.A y.l.length y.c).ownBlock=none∨(Value.slice y.A y.l.length y.c).ownBlock≠row) (h3:(Value.slice AW l.length cW).ownBlock=none∨(Value.slice AW l.length cW).ownBlock≠row):PtS wr' H0 H3 H7 gs ws TB AW td cW L l:=
 ⟨h.x.grown hg h0,⟨zda h.t.1 hg h1,fun y hy=>zda (h.t.2 y hy) hg (h2 y hy)⟩,h.s.grown hg hgs,zda h.b hg h3⟩
def ptBk (B H0 gs:Nat) (TB AW:Option Addr) (td cW:Nat) (L:List Ty) (l:List Bk):Prop:=∀ r,B≤r→H0≠r∧gs≠r∧(Value.slice TB L.length td).ownBlock≠some r∧(∀ y ∈ L,(Value.slice y.A y.l.length y.c).ownBlock≠some r)∧(Value.slice AW l.length cW).ownBlock≠some r
theorem PtS.bk (h:PtS wr H0 H3 H7 gs ws TB AW td cW L l):ptBk wr.heap.size H0 gs TB AW td cW L l:=fun r hr=>by
 refine ⟨by have:=h.x.lt;omega,by have:=h.s.lt;omega,fun e => ?_,fun y hy e => ?_,fun e => ?_⟩
 · have:=(h.t.1.lt r e).2;omega
 · have:=((h.t.2 y hy).lt r e).2;omega
 · have:=(h.b.lt r e).2;omega
theorem PtS.late (h:PtS wr H0 H3 H7 gs ws TB AW td cW L l) {B:Nat} (hk:ptBk B H0 gs TB AW td cW L l) {n:Nat} {v:Value} {xs:List Value} {e:TypeId} {sz:Nat} {wa:World} (hown:wa.ownsRow B e sz v n xs) (hg:wr.grownBy wr' v.ownBlock):PtS wr' H0 H3 H7 gs ws TB AW td cW L l:=by
 cases hv:v.ownBlock with
 | none=>exact h.grown hg (by rw[hv];simp) (by rw[hv];simp) (by rw[hv];exact Classical.em _) (fun y _=>by rw[hv];exact Classical.em _) (by rw[hv];exact Classical.em _)
 | some r =>
  obtain ⟨k1,k2,k3,k4,k5⟩:=hk r (hown.lt r hv).1
  exact h.grown hg (by rw[hv];simpa using k1) (by rw[hv];simpa using k2) (.inr (by rw[hv];exact k3)) (fun y hy=>.inr (by rw[hv];exact k4 y hy)) (.inr (by rw[hv];exact k5))
end
theorem zI9 {l:List Bk} {k:Nat} (hk:k<l.length) (h1:l[k].kind=1):(za1 l)[(za1 (l.take k)).length]? = some l[k]:=by
 have e:l=l.take k++l[k] :: l.drop (k+1):=by
  rw[List.getElem_cons_drop]
  exact (List.take_append_drop k l).symm
 have e2:za1 l=za1 (l.take k)++l[k] :: za1 (l.drop (k+1)):=by
  conv=>lhs;rw[e]
  unfold za1
  rw[List.filter_append,List.filter_cons_of_pos (by rw[beq_iff_eq];exact h1)]
 rw[e2,List.getElem?_append_right (Nat.le_refl _)]
 simp
set_option maxRecDepth 100000 in
set_option maxHeartbeats 16000000 in
theorem zDz (A:Option Addr) (ws:List Nat) (c n:Nat) (w:World) (hn:ws.length=n) (hs:zah (n:Int)=true) (hc:n≤c) (hr:RdW w w.heap.size A ws) (ho:∀ x ∈ ws,x<18446744073709551616) :
  Calls Tryz.prog 94 #[.slice A n c] w fun e w'=>PtRes ws A n c e w'∧Below w.heap.size w w':=by
 subst hn
 have hb:=(zad _).1 hs
 have HR:=hid hr
 have HTW:=hid (fun W (hr:RdW W W.heap.size A ws)=>zFh A ws c ws.length W rfl (by omega) hc hr)
 unfold zCj at HTW
 have hte:zid ws=if (tyN ws).isSome=true then 0 else 50:=by unfold zid;rw[if_pos hs]
 have HZ16:=hid (fun W (hr:RdW W W.heap.size A ws)=>(show Calls Tryz.prog 157 #[.slice A ws.length c,.int .i64 16] W fun e w'=>e=.returned (.bool (zev ws 16))∧W=w' from zu5 A ws c ws.length 16 W rfl (by omega) (by omega) hc hr))
 have HZ24:=hid (fun W (hr:RdW W W.heap.size A ws)=>(show Calls Tryz.prog 157 #[.slice A ws.length c,.int .i64 24] W fun e w'=>e=.returned (.bool (zev ws 24))∧W=w' from zu5 A ws c ws.length 24 W rfl (by omega) (by omega) hc hr))
 have HHA:=hid (fun W (hr:RdW W W.heap.size A ws)=>zIl A ws c ws.length W rfl (by omega) hr ho)
 have HWA:=hid (fun W (hr:RdW W W.heap.size A ws)=>zDl A ws c ws.length W rfl (by omega) hr ho)
 unfold zH0 at HHA
 unfold zry at HWA
 have hzv:=zeroSg
 have hi5:(Tryz.prog.info? 163).map (·.size)=some (#[.slice none 0 0,.slice none 0 0,.slice none 0 0,.slice none 0 0,.map none]:Array Value).size:=zvo
 have X0:=hid (Bx.new w 163 #[.slice none 0 0,.slice none 0 0,.slice none 0 0,.slice none 0 0,.map none])
 have HB0:=hid ((Below.refl w.heap.size w).alloc (Nat.le_refl _) (.cells #[.slice none 0 0,.slice none 0 0,.slice none 0 0,.slice none 0 0,.map none] 163))
 cases ht:tyN ws with
 | none =>
  rw[ht] at HTW hte
  rw[hte] at HTW
  have HV:=hid (zon (.inl ht))
  simp only[Option.getD_none,Option.isSome_none,Bool.false_eq_true,if_false] at HTW
  clear hte ht hs hb hr ho HZ16 HZ24 HHA HWA hc
  go_enter Tryz.func94,Tryz.ntmps94
  go_wp2_with fail
  refine (HTW.out _ (HR.out.up HB0.out HB0.out.size)).mono ?_
  rintro e w1 ⟨⟨a,b0,b1,rfl⟩,hB1⟩
  have HB1:=hid (HB0.out.trans (hB1.mono HB0.out.size))
  have X1:=hid (X0.out.up hB1 X0.out.lt)
  have hz1:=HB1.out.size
  have HB2:=hid ((HB1.out.alloc hz1 (.cells #[.int .i64 a,.int .i64 0] 126)).alloc (by simp;omega) (.cells #[.bool b0,.bool b1] 127))
  have X2:=hid ((X1.out.alloc (.cells #[.int .i64 a,.int .i64 0] 126)).alloc (.cells #[.bool b0,.bool b1] 127))
  clear hB1
  go_wp2_with (first
    | ((with_reducible refine zbu 163 (.tmp 2) _ ?_);refine zai rfl _ _ _ rfl w.heap.size 163 #[.slice none 0 0,.slice none 0 0,.slice none 0 0,.slice none 0 0,.map none] #[.slice none 0 0,.slice none 0 0,.slice none 0 0,.slice none 0 0,.map none] (by rfl) (by rfl) X2.out rfl hi5 (by simp[Value.oneCell']) ?_;intro w9 hb9 ha9;have HB9:=hid hb9;have HA9:=hid ha9;clear hb9 ha9))
  exact bodyPost_ret (v:=.tuple #[.agg #[.slice none 0 0,.slice none 0 0,.slice none 0 0,.slice none 0 0,.map none],.int .i64 1]) (ze1 Tryz.results94 _ HB9.out rfl rfl rfl) rfl ⟨⟨1,_,rfl,by omega,fun _=>⟨HV.out,rfl⟩,fun h=>by omega⟩,HA9.out.below HB2.out (Nat.le_refl _)⟩
 | some t =>
  have ht8:=zr6 ht
  rw[ht] at HTW hte
  rw[hte] at HTW
  simp only[Option.getD_some,Option.isSome_some,if_true] at HTW
  have HKT:=hid (fun W (hr:RdW W W.heap.size A ws)=>zGb A ws c ws.length t W rfl hs ht8 hr ho)
  unfold zIx at HKT
  have HIF:=hid (fun l hl=>znl (ws:=ws) (t:=t) (l:=l) ht hl)
  have HNB:=hid (fun h=>zon (ws:=ws) (.inr h))
  have HFL:Hid ((zev ws 16=false∨zev ws 24=false∨zgg ws t=false∨slsOk ws=false∨zyg ws=false)→lay ws=false):=hid fun h=>by
    cases hq:lay ws with
    | false=>rfl
    | true =>
      cases hl:blocks ws 128 with
      | none=>rw[HNB.out hl] at hq;cases hq
      | some l =>
        obtain ⟨a1,a2,a3,a4,a5,-⟩:=(HIF.out l hl).1 hq
        rw[a1,a2,a3,a4,zfz hl,a5] at h
        simp at h
  have HXL:Hid (∀ l,blocks ws 128=some l→∀ k (hk:k<l.length),∃ ka:Nat,l[k].at_=(ka:Int)∧ka≤2048):=hid fun l hl k hk=>by
    obtain ⟨a,e,a1,a2,a3,a4,-⟩:=zb5 _ _ hl (by omega) k hk
    exact ⟨a,by rw[e];rfl,by have:=(zav a4).2.2;omega⟩
  have HBN:=hid (fun l (hl:blocks ws 128=some l)=>(zbs (by omega) _ _ hl (by omega) (by omega) (by omega)).1)
  have HSZ:=hid hs
  have HT:=hid ht
  have HRAP:Hid (∀ mb W,(Instr.build 163 #[(0,.slice A ws.length c),(4,.map (some mb))]).run Tryz.prog W=.ok (.agg #[.slice A ws.length c,.slice none 0 0,.slice none 0 0,.slice none 0 0,.map (some mb)]) W):=hid fun _ _=>by kernel_rfl
  have hb2048:ws.length≤2048:=by omega
  clear hte hs hb hr ho ht hc
  go_enter Tryz.func94,Tryz.ntmps94
  go_wp2_with fail
  refine (HTW.out _ (HR.out.up HB0.out HB0.out.size)).mono ?_
  rintro e w1 ⟨⟨a,b0,b1,rfl⟩,hB1⟩
  have HB1:=hid (HB0.out.trans (hB1.mono HB0.out.size))
  have X1:=hid (X0.out.up hB1 X0.out.lt)
  have hz1:=HB1.out.size
  have HB2:=hid ((HB1.out.alloc hz1 (.cells #[.int .i64 a,.int .i64 (t:Int)] 126)).alloc (by simp;omega) (.cells #[.bool b0,.bool b1] 127))
  have X2:=hid ((X1.out.alloc (.cells #[.int .i64 a,.int .i64 (t:Int)] 126)).alloc (.cells #[.bool b0,.bool b1] 127))
  have T4:=hid ((Bx.new w1 126 #[.int .i64 a,.int .i64 (t:Int)]).alloc (.cells #[.bool b0,.bool b1] 127))
  clear hB1
  go_wp2_with fail
  obtain ⟨W2,hW2⟩:∃ W2,(w1.alloc (.cells #[.int .i64 a,.int .i64 (t:Int)] 126)).alloc (.cells #[.bool b0,.bool b1] 127)=W2:=⟨_,rfl⟩
  rw[hW2] at HB2 X2 T4 ⊢
  clear hW2 X0 X1 HB0 HB1
  have hz2:=HB2.out.size
  refine (HZ16.out _ (HR.out.up HB2.out hz2)).mono ?_
  rintro e w2 ⟨rfl,rfl⟩
  cases h16:zev ws 16
  · have HV:=hid (HFL.out (.inl h16))
    go_wp2_with (first
      | ((with_reducible refine zbu 163 (.tmp 2) _ ?_);refine zai rfl _ _ _ rfl w.heap.size 163 #[.slice none 0 0,.slice none 0 0,.slice none 0 0,.slice none 0 0,.map none] #[.slice none 0 0,.slice none 0 0,.slice none 0 0,.slice none 0 0,.map none] (by rfl) (by rfl) X2.out rfl hi5 (by simp[Value.oneCell']) ?_;intro w9 hb9 ha9;have HB9:=hid hb9;have HA9:=hid ha9;clear hb9 ha9))
    exact bodyPost_ret (v:=.tuple #[.agg #[.slice none 0 0,.slice none 0 0,.slice none 0 0,.slice none 0 0,.map none],.int .i64 2]) (ze1 Tryz.results94 _ HB9.out rfl rfl rfl) rfl ⟨⟨2,_,rfl,by omega,fun _=>⟨HV.out,rfl⟩,fun h=>by omega⟩,HA9.out.below HB2.out (Nat.le_refl _)⟩
  · have H16:=hid h16
    clear h16
    go_wp2_with fail
    refine (HZ24.out _ (HR.out.up HB2.out hz2)).mono ?_
    rintro e w2 ⟨rfl,rfl⟩
    cases h24:zev ws 24
    · have HV:=hid (HFL.out (.inr (.inl h24)))
      go_wp2_with (first
        | ((with_reducible refine zbu 163 (.tmp 2) _ ?_);refine zai rfl _ _ _ rfl w.heap.size 163 #[.slice none 0 0,.slice none 0 0,.slice none 0 0,.slice none 0 0,.map none] #[.slice none 0 0,.slice none 0 0,.slice none 0 0,.slice none 0 0,.map none] (by rfl) (by rfl) X2.out rfl hi5 (by simp[Value.oneCell']) ?_;intro w9 hb9 ha9;have HB9:=hid hb9;have HA9:=hid ha9;clear hb9 ha9))
      exact bodyPost_ret (v:=.tuple #[.agg #[.slice none 0 0,.slice none 0 0,.slice none 0 0,.slice none 0 0,.map none],.int .i64 3]) (ze1 Tryz.results94 _ HB9.out rfl rfl rfl) rfl ⟨⟨3,_,rfl,by omega,fun _=>⟨HV.out,rfl⟩,fun h=>by omega⟩,HA9.out.below HB2.out (Nat.le_refl _)⟩
    · have H24:=hid h24
      clear h24
      have hbd:=HRAP.out
      have hmm:=@run_makeMap Tryz.prog
      obtain ⟨-,t41,-,-,ht4⟩:=T4.out.c2
      go_wp2_with fail
      have g3:=Bx.new (W2.alloc (Obj.map #[] 0)) 163 #[.slice A ws.length c,.slice none 0 0,.slice none 0 0,.slice none 0 0,.map (some W2.heap.size)]
      rw[World.size_alloc] at g3
      have m3:=(World.ownsMap_made (H:=Unit) W2 Tryz.prog 3 (plainElem Tryz.prog 4)).alloc (.cells #[.slice A ws.length c,.slice none 0 0,.slice none 0 0,.slice none 0 0,.map (some W2.heap.size)] 163)
      have x3:=(X2.out.alloc (Obj.map #[] 0)).alloc (.cells #[.slice A ws.length c,.slice none 0 0,.slice none 0 0,.slice none 0 0,.map (some W2.heap.size)] 163)
      have hb3:=(HB2.out.alloc hz2 (Obj.map #[] 0)).alloc (by simp;omega) (.cells #[.slice A ws.length c,.slice none 0 0,.slice none 0 0,.slice none 0 0,.map (some W2.heap.size)] 163)
      have hs3:((W2.alloc (Obj.map #[] 0)).alloc (.cells #[.slice A ws.length c,.slice none 0 0,.slice none 0 0,.slice none 0 0,.map (some W2.heap.size)] 163)).heap.size=W2.heap.size+1+1:=by simp
      obtain ⟨W3,hW3⟩:∃ W3,(W2.alloc (Obj.map #[] 0)).alloc (.cells #[.slice A ws.length c,.slice none 0 0,.slice none 0 0,.slice none 0 0,.map (some W2.heap.size)] 163)=W3:=⟨_,rfl⟩
      rw[hW3] at g3 m3 x3 hb3 hs3 ⊢
      have HS3:=hid hs3
      have h3z:w.heap.size≤W3.heap.size:=hb3.size
      refine (HKT.out _ (HR.out.up hb3 hb3.size)).mono ?_
      rintro e w4 ⟨⟨TB,tm,td,L,rfl,hT⟩,hB4⟩
      have g4:=g3.up hB4 g3.lt
      have M4:=hid (zd0 m3 (hB4.block _ m3.lt))
      have X4:=hid (x3.up hB4 x3.lt)
      have HB4:=hid (hb3.trans (hB4.mono h3z))
      have hz4:=hB4.size
      have hx4:=x3.lt
      have hg4:=g4.lt
      obtain ⟨q0,q1,q2,q3,q4,qf,-⟩:=g4.c5
      have f1:=qf 1
      have G4:=hid g4
      have hne7:w.heap.size≠W2.heap.size+1:=by have:=X2.out.lt;omega
      have hne7':=hne7.symm
      clear hW3 g3 m3 x3 hb3 hs3 hB4 qf g4 X2 HB2 T4 t41 ht4 hbd hmm
      cases hty:zgg ws t
      · rw[hty] at hT
        simp only[Bool.false_eq_true,if_false]
        have HV:=hid (HFL.out (.inr (.inr (.inl hty))))
        have X5:=hid (X4.out.far (p:=⟨W2.heap.size+1,1,none⟩) hne7 (.slice TB tm td))
        have HB5:=hid (HB4.out.setCell (p:=⟨W2.heap.size+1,1,none⟩) (by dsimp only;omega) (.slice TB tm td))
        clear hT hty
        go_wp2_with (first
          | ((with_reducible refine zbu 163 (.tmp 2) _ ?_);refine zai rfl _ _ _ rfl w.heap.size 163 #[.slice none 0 0,.slice none 0 0,.slice none 0 0,.slice none 0 0,.map none] #[.slice none 0 0,.slice none 0 0,.slice none 0 0,.slice none 0 0,.map none] (by rfl) (by rfl) X5.out rfl hi5 (by simp[Value.oneCell']) ?_;intro w9 hb9 ha9;have HB9:=hid hb9;have HA9:=hid ha9;clear hb9 ha9))
        exact bodyPost_ret (v:=.tuple #[.agg #[.slice none 0 0,.slice none 0 0,.slice none 0 0,.slice none 0 0,.map none],.int .i64 4]) (ze1 Tryz.results94 _ HB9.out rfl rfl rfl) rfl ⟨⟨4,_,rfl,by omega,fun _=>⟨HV.out,rfl⟩,fun h=>by omega⟩,HA9.out.below HB5.out (Nat.le_refl _)⟩
      · obtain ⟨rfl,hot,hll⟩:=hT hty
        simp only[if_true]
        have HTY:=hid hty
        have HLL:=hid hll
        have hg73:W2.heap.size+1<W3.heap.size:=by have:=HS3.out;omega
        have OT5:=hid (show zut (w4.setCell ⟨W2.heap.size+1,1,none⟩ (.slice TB L.length td)) W3.heap.size (.slice TB L.length td) L from ⟨zc6 hot.1 (zez hot.1 hg73).symm _,fun y hy=>zc6 (hot.2 y hy) (zez (hot.2 y hy) hg73).symm _⟩)
        have X5:=hid (X4.out.far (p:=⟨W2.heap.size+1,1,none⟩) hne7 (.slice TB L.length td))
        have G5:=hid (G4.out.set_ 1 (.slice TB L.length td))
        have M5:=hid (M4.out.setCell (a:=⟨W2.heap.size+1,1,none⟩) (by simp) (.slice TB L.length td))
        have hb5:=HB4.out.setCell (p:=⟨W2.heap.size+1,1,none⟩) (by dsimp only;omega) (.slice TB L.length td)
        clear hT hty hot hll
        go_wp2_with fail
        obtain ⟨W5,hW5⟩:∃ W5,w4.setCell ⟨W2.heap.size+1,1,none⟩ (.slice TB L.length td)=W5:=⟨_,rfl⟩
        have hs5:W5.heap.size=w4.heap.size:=by rw[←hW5];simp
        rw[hW5] at OT5 X5 G5 M5 hb5 ⊢
        refine (HHA.out _ (HR.out.up hb5 hb5.size)).mono ?_
        rintro e w6 ⟨hh,hB6⟩
        have hb6:=hb5.trans (hB6.mono hb5.size)
        have g6:=G5.out.up hB6 G5.out.lt
        have X6:=hid (X5.out.up hB6 X5.out.lt)
        have M6:=hid (zd0 M5.out (hB6.block _ M5.out.lt))
        have OT6:=hid (show zut w6 W3.heap.size (.slice TB L.length td) L from ⟨zak OT5.out.1 hB6 (Nat.le_refl _),fun y hy=>zak (OT5.out.2 y hy) hB6 (Nat.le_refl _)⟩)
        have hz6:=hB6.size
        have hx6:=X6.out.lt
        obtain ⟨q0',q1',q2',q3',q4',qf',hg6⟩:=g6.c5
        have f2:=qf' 2
        have G6:=hid g6
        have HB6:=hid hb6
        have hgz:W2.heap.size+1<W5.heap.size:=G5.out.lt
        have h35:W3.heap.size≤W5.heap.size:=by omega
        have hhe:zdi ws=if slsOk ws=true then 0 else 50:=by unfold zdi;rw[if_pos HSZ.out]
        clear hW5 hs5 hb5 hB6 hb6 g6 qf' q0 q1 q2 q3 q4 f1 X4 G4 M4 HB4 X5 G5 M5 OT5
        cases hsl:slsOk ws
        · rw[hsl] at hhe
          simp only[Bool.false_eq_true,if_false] at hhe
          obtain rfl:=hh.2 (by rw[hhe];decide)
          have HV:=hid (HFL.out (.inr (.inr (.inr (.inl hsl)))))
          rw[hhe]
          have X7:=hid (X6.out.far (p:=⟨W2.heap.size+1,2,none⟩) hne7 (.slice none 0 0))
          have HB7:=hid (HB6.out.setCell (p:=⟨W2.heap.size+1,2,none⟩) (by dsimp only;omega) (.slice none 0 0))
          clear hsl hhe hh
          go_wp2_with (first
            | ((with_reducible refine zbu 163 (.tmp 2) _ ?_);refine zai rfl _ _ _ rfl w.heap.size 163 #[.slice none 0 0,.slice none 0 0,.slice none 0 0,.slice none 0 0,.map none] #[.slice none 0 0,.slice none 0 0,.slice none 0 0,.slice none 0 0,.map none] (by rfl) (by rfl) X7.out rfl hi5 (by simp[Value.oneCell']) ?_;intro w9 hb9 ha9;have HB9:=hid hb9;have HA9:=hid ha9;clear hb9 ha9))
          exact bodyPost_ret (v:=.tuple #[.agg #[.slice none 0 0,.slice none 0 0,.slice none 0 0,.slice none 0 0,.map none],.int .i64 5]) (ze1 Tryz.results94 _ HB9.out rfl rfl rfl) rfl ⟨⟨5,_,rfl,by omega,fun _=>⟨HV.out,rfl⟩,fun h=>by omega⟩,HA9.out.below HB7.out (Nat.le_refl _)⟩
        · rw[hsl] at hhe
          simp only[if_true] at hhe
          obtain ⟨gs,rfl,hgs,hbs⟩:=hh.1 hhe
          rw[hhe]
          have HSL:=hid hsl
          have hgs7:gs≠W2.heap.size+1:=by omega
          have S7:=hid (hbs.far (p:=⟨W2.heap.size+1,2,none⟩) hgs7 (.slice (some ⟨gs,0,none⟩) 16 16))
          have X7:=hid (X6.out.far (p:=⟨W2.heap.size+1,2,none⟩) hne7 (.slice (some ⟨gs,0,none⟩) 16 16))
          have G7:=hid (G6.out.set_ 2 (.slice (some ⟨gs,0,none⟩) 16 16))
          have M7:=hid (M6.out.setCell (a:=⟨W2.heap.size+1,2,none⟩) (by simp) (.slice (some ⟨gs,0,none⟩) 16 16))
          have OT7:=hid (show zut (w6.setCell ⟨W2.heap.size+1,2,none⟩ (.slice (some ⟨gs,0,none⟩) 16 16)) W3.heap.size (.slice TB L.length td) L from ⟨zc6 OT6.out.1 (zez OT6.out.1 hg73).symm _,fun y hy=>zc6 (OT6.out.2 y hy) (zez (OT6.out.2 y hy) hg73).symm _⟩)
          have hb7:=HB6.out.setCell (p:=⟨W2.heap.size+1,2,none⟩) (by dsimp only;omega) (.slice (some ⟨gs,0,none⟩) 16 16)
          clear hsl hhe hh hbs
          go_wp2_with fail
          obtain ⟨W7,hW7⟩:∃ W7,w6.setCell ⟨W2.heap.size+1,2,none⟩ (.slice (some ⟨gs,0,none⟩) 16 16)=W7:=⟨_,rfl⟩
          have hs7:W7.heap.size=w6.heap.size:=by rw[←hW7];simp
          rw[hW7] at OT7 X7 G7 M7 S7 hb7 ⊢
          refine (HWA.out _ (HR.out.up hb7 hb7.size)).mono ?_
          rintro e w8 ⟨⟨AW,cW,rfl,hown8⟩,hB8⟩
          have HB8:=hid (hb7.trans (hB8.mono hb7.size))
          have X8:=hid (X7.out.up hB8 X7.out.lt)
          have hgl:gs<W7.heap.size:=S7.out.lt
          have h57:W5.heap.size≤W7.heap.size:=by omega
          cases hwa:zyg ws
          · have HV:=hid (HFL.out (.inr (.inr (.inr (.inr hwa)))))
            have he:zhl ws=50:=by unfold zhl;rw[if_pos HSZ.out,hwa];rfl
            have ho:zdv ws=[]:=by unfold zdv;rw[if_neg (by rw[he];decide)]
            rw[he,ho]
            clear hwa he ho hown8 hb7 hB8 hW7 hs7 q0' q1' q2' q3' q4' f2
            go_wp2_with (first
             | ((with_reducible refine zbu 163 (.tmp 2) _ ?_);refine zai rfl _ _ _ rfl w.heap.size 163 #[.slice none 0 0,.slice none 0 0,.slice none 0 0,.slice none 0 0,.map none] #[.slice none 0 0,.slice none 0 0,.slice none 0 0,.slice none 0 0,.map none] (by rfl) (by rfl) X8.out rfl hi5 (by simp[Value.oneCell']) ?_;intro w9 hb9 ha9;have HB9:=hid hb9;have HA9:=hid ha9;clear hb9 ha9))
            exact bodyPost_ret (v:=.tuple #[.agg #[.slice none 0 0,.slice none 0 0,.slice none 0 0,.slice none 0 0,.map none],.int .i64 6]) (ze1 Tryz.results94 _ HB9.out rfl rfl rfl) rfl ⟨⟨6,_,rfl,by omega,fun _=>⟨HV.out,rfl⟩,fun h=>by omega⟩,HA9.out.below HB8.out (Nat.le_refl _)⟩
          · have he:zhl ws=0:=by unfold zhl;rw[if_pos HSZ.out,hwa];rfl
            obtain ⟨l,hl⟩:∃ l,blocks ws 128=some l:=by
             cases hl:blocks ws 128 with
             | none=>rw[znn hl] at hwa;cases hwa
             | some l=>exact ⟨l,rfl⟩
            have ho:zdv ws=l:=by unfold zdv;rw[if_pos he,hl];rfl
            have hadj:ziw l=true:=by rw[←zfz hl];exact hwa
            rw[ho] at hown8
            rw[he,ho]
            have hl24:l.length≤1024:=by have:=HBN.out l hl;omega
            have HL:=hid hl
            have HAD:=hid hadj
            have P8:=hid (show PtS w8 w.heap.size W3.heap.size W5.heap.size gs ws TB AW td cW L l from ⟨X8.out,⟨zak OT7.out.1 hB8 (Nat.le_refl _),fun y hy=>zak (OT7.out.2 y hy) hB8 (Nat.le_refl _)⟩,S7.out.up hB8 S7.out.lt,zbf hown8 h57⟩)
            have HBK:=hid P8.out.bk
            have G8:=hid (G7.out.up hB8 G7.out.lt)
            have M8:=hid (zd0 M7.out (hB8.block _ M7.out.lt))
            have hg8:=G8.out.lt
            have hm8:=M8.out.lt
            have hw8:=HB8.out.size
            have HXA:=hid (HXL.out l HL.out)
            clear hwa he ho hl hadj hown8 hb7 hB8 hW7 hs7 q0' q1' q2' q3' q4' f2 OT6 OT7 X6 X7 X8 G6 G7 M6 M7 S7 HB6
            obtain ⟨i2,hi,hz0,hz1,hz2⟩:=info_parts zjr
            have HJ:=hid hi
            have HJ0:=hid hz0
            have HJ1:=hid hz1
            have HJ2:=hid hz2
            clear hi hz0 hz1 hz2
            go_wp2_with fail
            go_loopw [61] (fun i wr=>∃ (k:Nat) (OB:Option Addr) (oc:Nat),k≤l.length∧i=.int .i64 k∧Hid (Bx wr (W2.heap.size+1) 163 #[.slice A ws.length c,.slice TB L.length td,.slice (some ⟨gs,0,none⟩) 16 16,.slice OB (za1 (l.take k)).length oc,.map (some W2.heap.size)])∧Hid (wr.ownsRow w8.heap.size 55 6 (.slice OB (za1 (l.take k)).length oc) (za1 (l.take k)).length ((za1 (l.take k)).flatMap Bk.cells))∧Hid (wr.ownsMap Tryz.prog 3 (plainElem Tryz.prog 4) W2.heap.size (za1 (l.take k)).length (zgj ((za1 l).map Bk.at_) (za1 (l.take k)).length))∧Hid (PtS wr w.heap.size W3.heap.size W5.heap.size gs ws TB AW td cW L l)∧w8.heap.size≤wr.heap.size∧Hid (Below w.heap.size w wr)) (fun i _=>l.length - (intOf i).toNat)
            case atStart=>exact ⟨0,none,0,Nat.zero_le _,rfl,G8,hid (World.ownsRow_nil _ _ _ _),M8,P8,Nat.le_refl _,HB8⟩
            case round =>
             obtain ⟨k,OB,oc,hk,rfl,G,ON,M,P,hsz,HB⟩:=hrel
             have hz:=HB.out.size
             by_cases hlt:k<l.length
             · obtain ⟨b,off,rfl,hbb,p0,p1,p2,p3,p4,p5⟩:=RdB.at_ (show RdB wr wr.heap.size AW l from Rd.of_own P.out.b) hlt
               have HTK:=hid (zri hlt)
               have HOA:=hid (zI9 hlt)
               have hlen:(za1 (l.take k)).length≤k:=by
                 unfold za1
                 have:=List.length_filter_le (fun b:Bk=>b.kind == 1) (l.take k)
                 rw[List.length_take] at this
                 omega
               obtain ⟨x,hx⟩:∃ x,l[k]=x:=⟨_,rfl⟩
               rw[hx] at p0 p1 p2 p3 p4 p5 HTK HOA
               obtain ⟨xa,xs,xk,xt,xm,xn⟩:=x
               dsimp only at p0 p1 p2 p3 p4 p5 HTK HOA
               obtain ⟨LK,hLK⟩:∃ LK,za1 (l.take k)=LK:=⟨_,rfl⟩
               rw[hLK] at G ON M HTK HOA hlen
               have hki:(k:Int)<(l.length:Int):=by omega
               have hk0:(0:Int)≤(k:Int):=by omega
               obtain ⟨ka,hka,hka2⟩:=HXA.out k hlt
               rw[hx] at hka
               dsimp only at hka
               clear hx hLK
               by_cases hk1:xk=1
               · have HTN:Hid (za1 (l.take (k+1))=LK++[⟨xa,xs,xk,xt,xm,xn⟩]):=hid (by rw[HTK.out,if_pos hk1])
                 have HX:=hid (HOA.out hk1)
                 have HKN:Hid (zgj ((za1 l).map Bk.at_) (LK.length+1)=(zgj ((za1 l).map Bk.at_) LK.length).put (.int .i64 xa) (.lit (.bool true))):=hid (by simp only[zgj,List.getElem?_map,HX.out];rfl)
                 have hwf:(Lit.int .i64 xa).wf=true:=by simp[Lit.wf,IntKind.min,IntKind.max,IntKind.signed,IntKind.bits];omega
                 have HK:=hid (keyOf_int_mk (P:=Tryz.prog) Tryz.underlying3 hwf)
                 subst hk1
                 obtain ⟨g0,g1,g2,g3,g4,gf,-⟩:=G.out.c5
                 have gf3:=gf 3
                 have hgw:=G.out.lt
                 have HO1:=hid (ON.out.alloc (.cells #[.int .i64 xa,.int .i64 xs,.int .i64 1,.int .i64 xt,.bool xm,.int .u64 (xn:Int)] 55))
                 have HG1:=hid (G.out.alloc (.cells #[.int .i64 xa,.int .i64 xs,.int .i64 1,.int .i64 xt,.bool xm,.int .u64 (xn:Int)] 55))
                 have HM1:=hid (M.out.alloc (.cells #[.int .i64 xa,.int .i64 xs,.int .i64 1,.int .i64 xt,.bool xm,.int .u64 (xn:Int)] 55))
                 have HP1:=hid (P.out.alloc (.cells #[.int .i64 xa,.int .i64 xs,.int .i64 1,.int .i64 xt,.bool xm,.int .u64 (xn:Int)] 55))
                 have HB1:=hid (HB.out.alloc hz (.cells #[.int .i64 xa,.int .i64 xs,.int .i64 1,.int .i64 xt,.bool xm,.int .u64 (xn:Int)] 55))
                 have BX1:=hid (Bx.new wr 55 #[.int .i64 xa,.int .i64 xs,.int .i64 1,.int .i64 xt,.bool xm,.int .u64 (xn:Int)])
                 have hsz1:w8.heap.size≤(wr.alloc (.cells #[.int .i64 xa,.int .i64 xs,.int .i64 1,.int .i64 xt,.bool xm,.int .u64 (xn:Int)] 55)).heap.size:=zcq hsz
                 have HSZ1:=hid hsz1
                 have HNB:=hid (show some wr.heap.size≠(Value.slice OB LK.length oc).ownBlock from fun h=>by have:=(ON.out.lt _ h.symm).2;omega)
                 have hmw:=M.out.lt
                 have HNW:=zcl (wr.alloc (.cells #[.int .i64 xa,.int .i64 xs,.int .i64 1,.int .i64 xt,.bool xm,.int .u64 (xn:Int)] 55)) [.int .i64 xa,.int .i64 xs,.int .i64 1,.int .i64 xt,.bool xm,.int .u64 (xn:Int)] 55
                 rw[World.size_alloc] at HNW
                 have HNW:=hid HNW
                 clear HTK HOA hwf gf hka hsz1
                 go_wp2_with (first
                  | (at_builtin;refine wpList_append_own _ rfl _ _ 48 rfl w8.heap.size 55 i2 _ 6 48 Tryz.underlying48 HJ.out HJ0.out HJ1.out HJ2.out rfl (by decide) _ _ _ rfl (HO1.out.alloc _) ⟨_,0,none⟩ 1 1 [.int .i64 xa,.int .i64 xs,.int .i64 1,.int .i64 xt,.bool xm,.int .u64 (xn:Int)] rfl rfl HNW.out (by simp[Value.oneCell']) (by unfold maxLen;omega) (by omega) (zcq HSZ1.out) ?_;intro v1 w6 hown1 hg1 _;obtain ⟨OV,oc2,rfl⟩:=zbb hown1;have HB6:=hid (zaw HB1.out HB1.out.size (zbf HO1.out hw8) hg1);have HN6:=hid hown1;have HG6:=hid ((HG1.out.alloc _).grown hg1 (zez ON.out hg8));have HM6:=hid ((HM1.out.alloc _).kept hg1 (zez ON.out hm8));have HP6:=hid ((HP1.out.alloc _).late HBK.out HO1.out hg1);have BX6:=hid ((BX1.out.alloc _).grown hg1 HNB.out);have hs6:=Nat.le_trans (zcq HSZ1.out) hg1.size;obtain ⟨d0,d1,d2,d3,d4,df,-⟩:=HG6.out.c5;obtain ⟨x0,-,-,-,-,-,-,xlt⟩:=BX6.out.c6;have df3:=df 3;clear hown1 hg1 df)
                  | (at_mapUpdate;refine wpList_mapUpdate_own _ rfl _ _ _ 161 rfl 3 4 zCk Tryz.underlying161 _ W2.heap.size _ _ rfl (HM6.out.setCell (a:=⟨W2.heap.size+1,3,none⟩) (by simp) _) (by unfold maxLen;omega) _ _ _ rfl rfl HK.out (.lit (.bool true)) [] (plainElem_bool Tryz.underlying4 true) ?_;intro w7 hown2 hg2))
                 have HB7:=hid ((HB6.out.setCell (p:=⟨W2.heap.size+1,3,none⟩) (by dsimp only;omega) (.slice OV (LK.length+1) oc2)).grown hg2 (by rw[World.size_setCell];exact HB6.out.size) (fun k hk=>by injection hk with hk;omega))
                 have HG7:=hid ((HG6.out.set_ 3 (.slice OV (LK.length+1) oc2)).grown hg2 (by simp))
                 have n7:=(zez HN6.out hg8).symm
                 have HN7:=hid (zda (zc6 HN6.out n7 (.slice OV (LK.length+1) oc2)) hg2 (.inr (zez HN6.out hm8).symm))
                 have hx0:=zmw P.out.x M.out
                 have hx1:=zmw P.out.s M.out
                 have hw3:W2.heap.size<W3.heap.size:=by have:=HS3.out;omega
                 have HP7:=hid ((HP6.out.set_ (p:=⟨W2.heap.size+1,3,none⟩) hne7 hg73 (by omega) hgs (.slice OV (LK.length+1) oc2)).grown hg2 hx0 hx1 (.inr (zez P.out.t.1 hw3).symm) (fun y hy=>.inr (zez (P.out.t.2 y hy) hw3).symm) (.inr (zez P.out.b (show W2.heap.size<W5.heap.size by omega)).symm))
                 have hs7:w8.heap.size≤w7.heap.size:=Nat.le_trans hs6 (by have:=hg2.size;rw[World.size_setCell] at this;exact this)
                 clear hg2 hx0 hx1 n7
                 go_wp2_with fail
                 go_roundw
                 case rel =>
                  refine ⟨k+1,OV,oc2,by omega,by go_num,?_,?_,?_,HP7,hs7,HB7⟩
                  · rw[HTN.out,List.length_append];exact HG7
                  · rw[HTN.out,List.length_append,List.flatMap_append];exact HN7
                  · rw[HTN.out,List.length_append]
                    refine hid ?_
                    show w7.ownsMap _ _ _ _ (LK.length+1) (zgj _ (LK.length+1))
                    rw[HKN.out];exact hown2
                 case measure=>simp[intOf];omega
               · have HTN:Hid (za1 (l.take (k+1))=LK):=hid (by rw[HTK.out,if_neg hk1,List.append_nil])
                 have e1:(xk == 1)=false:=by rw[beq_eq_false_iff_ne];exact hk1
                 have HO1:=hid (ON.out.alloc (.cells #[.int .i64 xa,.int .i64 xs,.int .i64 xk,.int .i64 xt,.bool xm,.int .u64 (xn:Int)] 55))
                 have HG1:=hid (G.out.alloc (.cells #[.int .i64 xa,.int .i64 xs,.int .i64 xk,.int .i64 xt,.bool xm,.int .u64 (xn:Int)] 55))
                 have HM1:=hid (M.out.alloc (.cells #[.int .i64 xa,.int .i64 xs,.int .i64 xk,.int .i64 xt,.bool xm,.int .u64 (xn:Int)] 55))
                 have HP1:=hid (P.out.alloc (.cells #[.int .i64 xa,.int .i64 xs,.int .i64 xk,.int .i64 xt,.bool xm,.int .u64 (xn:Int)] 55))
                 have HB1:=hid (HB.out.alloc hz (.cells #[.int .i64 xa,.int .i64 xs,.int .i64 xk,.int .i64 xt,.bool xm,.int .u64 (xn:Int)] 55))
                 have HS1:=hid (show w8.heap.size≤(wr.alloc (.cells #[.int .i64 xa,.int .i64 xs,.int .i64 xk,.int .i64 xt,.bool xm,.int .u64 (xn:Int)] 55)).heap.size from zcq hsz)
                 subst hka
                 clear HTK HOA hk1
                 go_wp2_with fail
                 go_roundw
                 case rel=>exact ⟨k+1,OB,oc,by omega,by go_num,by rw[HTN.out];exact HG1,by rw[HTN.out];exact HO1,by rw[HTN.out];exact HM1,HP1,HS1.out,HB1⟩
                 case measure=>simp[intOf];omega
             · obtain rfl:k=l.length:=by omega
               rw[List.take_length] at G ON M
               have HG:=hid G.out
               obtain ⟨g0,g1,g2,g3,g4,-,-⟩:=G.out.c5
               go_wp2_with (first
                 | ((with_reducible refine zh9 163 (.tmp 7) ?_);refine wpList_load_row rfl _ _ rfl (W2.heap.size+1) (by rfl) 163 _ (0,0) _ HG.out Tryz.underlying163 (by rfl) zvo ?_)
                 | ((with_reducible refine zbu 163 (.tmp 2) _ ?_);refine zai rfl _ _ _ rfl w.heap.size 163 #[.slice none 0 0,.slice none 0 0,.slice none 0 0,.slice none 0 0,.map none] #[.slice A ws.length c,.slice TB L.length td,.slice (some ⟨gs,0,none⟩) 16 16,.slice OB (za1 l).length oc,.map (some W2.heap.size)] (by rfl) (by rfl) P.out.x rfl hi5 (by simp[Value.oneCell']) ?_;intro w9 hb9 ha9;have HB9:=hid hb9;have HA9:=hid ha9;clear hb9 ha9))
               refine bodyPost_ret (v:=.tuple #[.agg #[.slice A ws.length c,.slice TB L.length td,.slice (some ⟨gs,0,none⟩) 16 16,.slice OB (za1 l).length oc,.map (some W2.heap.size)],.int .i64 0]) (ze1 Tryz.results94 _ HB9.out rfl rfl rfl) rfl ⟨⟨0,_,rfl,Int.le_refl _,fun h=>absurd rfl h,fun _=>⟨t,l,?_⟩⟩,HA9.out.below HB.out (Nat.le_refl _)⟩
               have hb9:=HA9.out.2.2 w.heap.size (Nat.le_refl _)
               have hg9:wr.grownBy w9 (some w.heap.size):=⟨hb9.os,hb9.tape,hb9.output,by rw[HA9.out.1];exact Nat.le_refl _,fun k hk hne=>HA9.out.2.1 k (fun e=>hne (by rw[e]))⟩
               have hS:=HA9.out.bx P.out.s (show gs≠w.heap.size by omega)
               refine ⟨HT.out,HL.out,H16.out,H24.out,HTY.out,HSL.out,HAD.out,TB,some ⟨gs,0,none⟩,OB,td,16,oc,W2.heap.size,L,rfl,?_,HLL.out,Rd.of_box hS hS.lt,?_,?_⟩
               · exact RdL.of_own (H:=W3.heap.size) ⟨zda P.out.t.1 hg9 (.inr (zez P.out.t.1 hx4).symm),fun y hy=>zda (P.out.t.2 y hy) hg9 (.inr (zez (P.out.t.2 y hy) hx4).symm)⟩ rfl
               · exact Rd.of_own (zda ON.out hg9 (.inr (zez ON.out (show w.heap.size<w8.heap.size by omega)).symm))
               · exact M.out.kept hg9 (zmw P.out.x M.out).symm
end Go.Proofs.YtpcajamacpbjcaaGreat
namespace Go.Proofs.YtpcajamacpbjcaaGreat
open Lib (hid)
open Go.RowKit Go.Maps
theorem zzn {ws:List Nat} {t:Nat} {L:List Ty} (hty:zgg ws t=true) (hL:L.map Ty.l=zfl ws t 8):∀ x ∈ L,zcv x.l=0∧kSz x.l=za8 x.l.length∧x.l.length≤8:=by
 intro x hx
 have hm:x.l ∈ zfl ws t 8:=by rw[←hL];exact List.mem_map_of_mem hx
 unfold zfl at hm
 obtain ⟨i,hi,e⟩:=List.mem_map.1 hm
 rw[List.mem_range] at hi
 have hat:=(zfw ws t).1 hty i (by omega)
 unfold zAu at hat
 rw[if_pos (by omega)] at hat
 have e2:x.l=zc9 (wd ws (96+2 * i)):=by rw[←e];unfold zbd;rw[if_pos hat]
 obtain ⟨h1,h2,-,-⟩:=zr3 hat
 have h8:x.l.length≤8:=by rw[e2,zet];exact h1
 have h0:zcv x.l=0:=zh8 h8 (by rw[e2];exact h2)
 exact ⟨h0,by unfold kSz;rw[if_pos h0],h8⟩
section
variable {A TA SA OA:Option Addr} {ws:List Nat} {L:List Ty} {l:List Bk} {c n tc tn sc sn oc mb:Nat} {w:World}
theorem zE4 {T:List (List Nat)} (hl:blocks ws 128=some l) (hm:(za1 l).length≤1000000) (hO:RdB w w.heap.size OA (za1 l)) :
  Calls Tryz.prog 100 #[.agg #[.slice A n c,.slice TA tn tc,.slice SA sn sc,.slice OA (za1 l).length oc,.map (some mb)],.func (.func 95) #[.agg #[.slice A n c,.slice TA tn tc,.slice SA sn sc,.slice OA (za1 l).length oc,.map (some mb)]] #[]] w fun e w'=>e=.returned (.bool ((za1 l).all fun b => !wrK ws T (za1 l) 7 b))∧Below w.heap.size w w':=by
 refine ztr A TA SA OA (za1 l) _ c n tc tn sc sn oc (za1 l).length mb w rfl hm hO (fun k h W hb => ?_)
 obtain ⟨a,z,ty,nx,mk,e,-⟩:=zf9 hl (List.getElem_mem h)
 rw[e,zj5]
 have e7:wrB ws T (za1 l) a z ty mk nx 7=(mk || decide (0<nx)):=by simp[wrB]
 rw[e7]
 exact zHk A TA SA OA c n tc tn sc sn oc (za1 l).length mb a z ty nx 1 mk W
theorem zD3 (hl:blocks ws 128=some l) (hm:(za1 l).length≤1000000) (ht:L.length=tn) (hk:∀ x ∈ L,zcv x.l=0∧kSz x.l=za8 x.l.length∧x.l.length≤8) (hO:RdB w w.heap.size OA (za1 l)) (hL:RdL w w.heap.size TA L) :
  Calls Tryz.prog 100 #[.agg #[.slice A n c,.slice TA tn tc,.slice SA sn sc,.slice OA (za1 l).length oc,.map (some mb)],.func (.func 96) #[.agg #[.slice A n c,.slice TA tn tc,.slice SA sn sc,.slice OA (za1 l).length oc,.map (some mb)]] #[]] w fun e w'=>e=.returned (.bool ((za1 l).all fun b => !wrK ws (L.map Ty.l) (za1 l) 8 b))∧Below w.heap.size w w':=by
 refine zrj A TA SA OA (za1 l) _ c n tc tn sc sn oc (za1 l).length mb w rfl hm hO (fun k h W hb => ?_)
 obtain ⟨a,z,ty,nx,mk,e,-⟩:=zf9 hl (List.getElem_mem h)
 rw[e,zj5]
 have e8:(!wrB ws (L.map Ty.l) (za1 l) a z ty mk nx 8)=(decide (ty<L.length) && za8 (((L.map Ty.l)[ty]?).getD []).length == z):=by
  unfold wrB
  rw[if_neg (by decide),if_pos rfl,List.length_map]
  cases decide (ty<L.length) <;> simp[bne]
 rw[e8]
 exact zAe A TA SA OA L c n tc tn sc sn oc (za1 l).length mb a z ty nx 1 mk W ht hk (hL.up hb hb.size)
theorem zpp {T:List (List Nat)} {O:List Bk} {a z ty nx:Nat} {mk:Bool} (hT:L.map Ty.l=T) (h:wrK ws T O 8 ⟨(a:Int),(z:Int),1,(ty:Int),mk,nx⟩=false):∃ h:ty<L.length,z=za8 L[ty].l.length∧(T[ty]?).getD []=L[ty].l:=by
 rw[zj5] at h
 unfold wrB at h
 rw[if_neg (by decide),if_pos rfl,Bool.or_eq_false_iff,Bool.not_eq_false',decide_eq_true_iff,bne_eq_false_iff_eq,←hT,List.length_map] at h
 have e:(T[ty]?).getD []=(L[ty]'h.1).l:=by rw[←hT];simp[h.1]
 refine ⟨h.1,?_,e⟩
 rw[←e,←hT];exact h.2.symm
theorem zwp (hl:blocks ws 128=some l) (hm:(za1 l).length≤1000000) (hn:ws.length=n) (hn2:n≤2048) (ht:L.length=tn) (hk:∀ x ∈ L,zcv x.l=0∧kSz x.l=za8 x.l.length∧x.l.length≤8) (h8:∀ b ∈ za1 l,wrK ws (L.map Ty.l) (za1 l) 8 b=false) (hO:RdB w w.heap.size OA (za1 l)) (hL:RdL w w.heap.size TA L) (hR:RdW w w.heap.size A ws) :
  Calls Tryz.prog 100 #[.agg #[.slice A n c,.slice TA tn tc,.slice SA sn sc,.slice OA (za1 l).length oc,.map (some mb)],.func (.func 97) #[.agg #[.slice A n c,.slice TA tn tc,.slice SA sn sc,.slice OA (za1 l).length oc,.map (some mb)]] #[]] w fun e w'=>e=.returned (.bool ((za1 l).all fun b => !wrK ws (L.map Ty.l) (za1 l) 9 b))∧Below w.heap.size w w':=by
 refine zqk A TA SA OA (za1 l) _ c n tc tn sc sn oc (za1 l).length mb w rfl hm hO (fun k h W hb => ?_)
 obtain ⟨a,z,ty,nx,mk,e,-,haz,-⟩:=zf9 hl (List.getElem_mem h)
 have h8k:=h8 _ (List.getElem_mem h)
 rw[e] at h8k ⊢
 obtain ⟨hty,hz,he⟩:=zpp rfl h8k
 rw[zj5]
 have e9:wrB ws (L.map Ty.l) (za1 l) a z ty mk nx 9=(decide (L[ty].l.length+2<z) && wd ws (a+2+L[ty].l.length) != 0):=by
  unfold wrB
  rw[if_neg (by decide),if_neg (by decide),if_pos rfl,he]
 rw[e9]
 exact zx1 A TA SA OA ws L c n tc tn sc sn oc (za1 l).length mb a z ty nx 1 mk W hn hn2 ht hty (hk _ (List.getElem_mem hty)).2.2 hz (by omega) (hR.up hb hb.size) (hL.up hb hb.size)
theorem zyv (hl:blocks ws 128=some l) (hm:(za1 l).length≤1000000) (hn:ws.length=n) (hn2:n≤2048) (ht:L.length=tn) (ho:∀ x ∈ ws,x<18446744073709551616) (hk:∀ x ∈ L,zcv x.l=0∧kSz x.l=za8 x.l.length∧x.l.length≤8) (h8:∀ b ∈ za1 l,wrK ws (L.map Ty.l) (za1 l) 8 b=false) (hO:RdB w w.heap.size OA (za1 l)) (hL:RdL w w.heap.size TA L) (hR:RdW w w.heap.size A ws) :
  Calls Tryz.prog 100 #[.agg #[.slice A n c,.slice TA tn tc,.slice SA sn sc,.slice OA (za1 l).length oc,.map (some mb)],.func (.func 98) #[.agg #[.slice A n c,.slice TA tn tc,.slice SA sn sc,.slice OA (za1 l).length oc,.map (some mb)]] #[]] w fun e w'=>e=.returned (.bool ((za1 l).all fun b => !wrK ws (L.map Ty.l) (za1 l) 10 b))∧Below w.heap.size w w':=by
 refine zp0 A TA SA OA (za1 l) _ c n tc tn sc sn oc (za1 l).length mb w rfl hm hO (fun k h W hb => ?_)
 obtain ⟨a,z,ty,nx,mk,e,-,haz,-⟩:=zf9 hl (List.getElem_mem h)
 have h8k:=h8 _ (List.getElem_mem h)
 rw[e] at h8k ⊢
 obtain ⟨hty,hz,he⟩:=zpp rfl h8k
 rw[zj5]
 have e9:wrB ws (L.map Ty.l) (za1 l) a z ty mk nx 10=((List.range L[ty].l.length).any fun i=>wrF ws L[ty].l (za1 l) a 10 i):=by
  unfold wrB
  rw[if_neg (by decide),if_neg (by decide),if_neg (by decide),he]
 rw[e9]
 exact zxh A TA SA OA ws L (za1 l) c n tc tn sc sn oc (za1 l).length mb a z ty nx 1 mk W hn hn2 ht hty (hk _ (List.getElem_mem hty)).2.2 hz (by omega) (hR.up hb hb.size) (hL.up hb hb.size) ho
theorem zEv (hl:blocks ws 128=some l) (hm:(za1 l).length≤1000000) (hn:ws.length=n) (hn2:n≤2048) (ht:L.length=tn) (ho:∀ x ∈ ws,x<18446744073709551616) (hk:∀ x ∈ L,zcv x.l=0∧kSz x.l=za8 x.l.length∧x.l.length≤8) (h8:∀ b ∈ za1 l,wrK ws (L.map Ty.l) (za1 l) 8 b=false) (hO:RdB w w.heap.size OA (za1 l)) (hL:RdL w w.heap.size TA L) (hR:RdW w w.heap.size A ws) (hM:w.ownsMap Tryz.prog 3 (plainElem Tryz.prog 4) mb (za1 l).length (zgj ((za1 l).map Bk.at_) (za1 l).length)) :
  Calls Tryz.prog 100 #[.agg #[.slice A n c,.slice TA tn tc,.slice SA sn sc,.slice OA (za1 l).length oc,.map (some mb)],.func (.func 99) #[.agg #[.slice A n c,.slice TA tn tc,.slice SA sn sc,.slice OA (za1 l).length oc,.map (some mb)]] #[]] w fun e w'=>e=.returned (.bool ((za1 l).all fun b => !wrK ws (L.map Ty.l) (za1 l) 11 b))∧Below w.heap.size w w':=by
 refine ztt A TA SA OA (za1 l) _ c n tc tn sc sn oc (za1 l).length mb w rfl hm hO (fun k h W hb => ?_)
 obtain ⟨a,z,ty,nx,mk,e,-,haz,-⟩:=zf9 hl (List.getElem_mem h)
 have h8k:=h8 _ (List.getElem_mem h)
 rw[e] at h8k ⊢
 obtain ⟨hty,hz,he⟩:=zpp rfl h8k
 rw[zj5]
 have e9:wrB ws (L.map Ty.l) (za1 l) a z ty mk nx 11=((List.range L[ty].l.length).any fun i=>wrF ws L[ty].l (za1 l) a 11 i):=by
  unfold wrB
  rw[if_neg (by decide),if_neg (by decide),if_neg (by decide),he]
 rw[e9]
 refine zE1 A TA SA OA ws L (za1 l) c n tc tn sc sn oc (za1 l).length mb a z ty nx 1 mk W hn hn2 ht hty (hk _ (List.getElem_mem hty)).2.2 hz (by omega) (hR.up hb hb.size) (hL.up hb hb.size) ho (fun b hb => ?_) (zd0 hM (hb.block _ hM.lt))
 obtain ⟨a',z',ty',nx',mk',e',-,haz',hz2,-⟩:=zf9 hl hb
 rw[e']
 show (a':Int)<n
 omega
end
end Go.Proofs.YtpcajamacpbjcaaGreat
namespace Go.Proofs.YtpcajamacpbjcaaGreat
open Lib (hid)
open Go.RowKit Go.Maps
def zD2 (ws:List Nat) (e:Ending):Prop:=∃ r:Int,e=.returned (.tuple #[.int .i64 r,.int .i64 (zkj ws.length)])∧0≤r∧(zah (ws.length:Int)=true→(r=0↔lay ws=true))
def zLn (ws:List Nat) (T:List (List Nat)) (O:List Bk) (k:Nat):Prop:=∀ r,7≤r→r<7+k→∀ b ∈ O,wrK ws T O r b=false
theorem zy9 {ws:List Nat} {T:List (List Nat)} {O:List Bk} {k:Nat} (h:zLn ws T O k) (h1:(O.all fun b => !wrK ws T O (7+k) b)=true):zLn ws T O (k+1):=fun r h7 hr b hb=>by
 rcases Nat.lt_or_ge r (7+k) with h2|h2
 · exact h r h7 h2 b hb
 · have:r=7+k:=by omega
   subst this
   have:=List.all_eq_true.1 h1 b hb
   simpa using this
theorem zHl {ws:List Nat} {T:List (List Nat)} {O:List Bk} {k:Nat} (hk:k<5) (h1:(O.all fun b => !wrK ws T O (7+k) b)=false):¬ ∀ r,7≤r→r<12→∀ b ∈ O,wrK ws T O r b=false:=fun h=>by
 rw[List.all_eq_true.2 fun b hb=>by rw[h (7+k) (by omega) (by omega) b hb];rfl] at h1
 cases h1
def zna (O:List Bk) (S:List Sl) (k:Nat):Prop:=∀ i (h:i<S.length),i<k→zih O S[i]=true
theorem zrw {O:List Bk} {S:List Sl} {k:Nat} (hk:k<S.length) (h:zna O S k) (h1:zih O S[k]=true):zna O S (k+1):=fun i hi hlt=>by
 rcases Nat.lt_or_ge i k with h2|h2
 · exact h i hi h2
 · have:i=k:=by omega
   subst this;exact h1
set_option maxRecDepth 100000 in
set_option maxHeartbeats 8000000 in
theorem zy6 (A:Option Addr) (ws:List Nat) (c n:Nat) (w:World) (hn:ws.length=n) (hm:n≤9223372036854775807) (hc:n≤c) (hr:RdW w w.heap.size A ws) (ho:∀ x ∈ ws,x<18446744073709551616) :
   Calls Tryz.prog 51 #[.slice A n c] w fun e w'=>zD2 ws e∧Below w.heap.size w w':=by
 subst hn
 have HIM:=hid (zay A ws.length c w hm)
 cases hs:zah (ws.length:Int)
 · have HE:=hid (zbw hs)
   have HV:Hid (zD2 ws (.returned (.tuple #[.int .i64 0,.int .i64 8]))):=hid ⟨0,by rw[HE.out],Int.le_refl _,fun h=>by rw[hs] at h;cases h⟩
   rw[HE.out] at HIM
   clear hs hr ho hm hc
   go_enter Tryz.func51,Tryz.ntmps51
   go_wp2_with fail
   refine HIM.out.mono ?_
   rintro e w1 ⟨rfl,rfl⟩
   go_wp2_with fail
   go_ret2
   exact ⟨HV.out,Below.refl _ _⟩
 · have HE:=hid (zbc hs)
   have hb:=(zad _).1 hs
   have HPT:=hid (zDz A ws c ws.length w rfl hs hc hr ho)
   have HBAD:Hid (∀ r:Int,0<r→lay ws=false→zD2 ws (.returned (.tuple #[.int .i64 r,.int .i64 0]))):=hid fun r h h2=>⟨r,by rw[HE.out],by omega,fun _=>⟨fun h3=>by omega,fun h3=>by rw[h2] at h3;cases h3⟩⟩
   have HGOOD:Hid (lay ws=true→zD2 ws (.returned (.tuple #[.int .i64 0,.int .i64 0]))):=hid fun h=>⟨0,by rw[HE.out],Int.le_refl _,fun _=>⟨fun _=>h,fun _=>rfl⟩⟩
   rw[HE.out] at HIM
   have HR:=hid hr
   have HOO:=hid ho
   have hlen:256≤ws.length∧ws.length≤2048:=by omega
   have hi5:(Tryz.prog.info? 163).map (·.size)=some (#[.slice none 0 0,.slice none 0 0,.slice none 0 0,.slice none 0 0,.map none]:Array Value).size:=zvo
   unfold PtRes at HPT
   clear hs hr ho hm hc hb
   go_enter Tryz.func51,Tryz.ntmps51
   go_wp2_with fail
   refine HIM.out.mono ?_
   rintro e w1 ⟨rfl,rfl⟩
   go_wp2_with fail
   refine HPT.out.mono ?_
   rintro e w2 ⟨⟨r,sv,rfl,hr0,hbad,hgood⟩,hB2⟩
   have HB2:=hid hB2
   have hz2:=hB2.size
   clear hB2
   by_cases h0:r=0
   · subst h0
     obtain ⟨t,l,P⟩:=hgood rfl
     have PQ:=hid P
     obtain ⟨TA,SA,OA,tc,sc,oc,mb,L,rfl,hL,hLL,hS,hO,hM⟩:=P.mem
     have HIF:=hid (znl P.ty P.bl)
     have HK:=hid (zzn P.tys hLL)
     have HHL:=hid hL
     have HHS:=hid hS
     have HHO:=hid hO
     have HHM:=hid hM
     have HLL:=hid hLL
     have hobj:(za1 l).length≤1000000:=by
      have:=(zbs (by omega) _ _ P.bl (by omega) (by omega) (by omega)).1
      have:=List.length_filter_le (fun b:Bk=>b.kind == 1) l
      unfold za1;omega
     have HOB:=hid hobj
     have hml:=hM.lt
     clear hbad hgood P hL hLL hS hO hM hobj hr0
     have hS4:((w2.alloc (.cells #[.slice A ws.length c,.slice TA L.length tc,.slice SA 16 sc,.slice OA (za1 l).length oc,.map (some mb)] 163)).alloc (.cells #[.func (.func 95) #[.agg #[.slice A ws.length c,.slice TA L.length tc,.slice SA 16 sc,.slice OA (za1 l).length oc,.map (some mb)]] #[],.func (.func 96) #[.agg #[.slice A ws.length c,.slice TA L.length tc,.slice SA 16 sc,.slice OA (za1 l).length oc,.map (some mb)]] #[],.func (.func 97) #[.agg #[.slice A ws.length c,.slice TA L.length tc,.slice SA 16 sc,.slice OA (za1 l).length oc,.map (some mb)]] #[],.func (.func 98) #[.agg #[.slice A ws.length c,.slice TA L.length tc,.slice SA 16 sc,.slice OA (za1 l).length oc,.map (some mb)]] #[],.func (.func 99) #[.agg #[.slice A ws.length c,.slice TA L.length tc,.slice SA 16 sc,.slice OA (za1 l).length oc,.map (some mb)]] #[]] 166)).heap.size=w2.heap.size+1+1:=by simp
     have b24:=((Below.refl w2.heap.size w2).alloc (Nat.le_refl _) (.cells #[.slice A ws.length c,.slice TA L.length tc,.slice SA 16 sc,.slice OA (za1 l).length oc,.map (some mb)] 163)).alloc (by simp) (.cells #[.func (.func 95) #[.agg #[.slice A ws.length c,.slice TA L.length tc,.slice SA 16 sc,.slice OA (za1 l).length oc,.map (some mb)]] #[],.func (.func 96) #[.agg #[.slice A ws.length c,.slice TA L.length tc,.slice SA 16 sc,.slice OA (za1 l).length oc,.map (some mb)]] #[],.func (.func 97) #[.agg #[.slice A ws.length c,.slice TA L.length tc,.slice SA 16 sc,.slice OA (za1 l).length oc,.map (some mb)]] #[],.func (.func 98) #[.agg #[.slice A ws.length c,.slice TA L.length tc,.slice SA 16 sc,.slice OA (za1 l).length oc,.map (some mb)]] #[],.func (.func 99) #[.agg #[.slice A ws.length c,.slice TA L.length tc,.slice SA 16 sc,.slice OA (za1 l).length oc,.map (some mb)]] #[]] 166)
     have BX4:=(Bx.new w2 163 #[.slice A ws.length c,.slice TA L.length tc,.slice SA 16 sc,.slice OA (za1 l).length oc,.map (some mb)]).alloc (.cells #[.func (.func 95) #[.agg #[.slice A ws.length c,.slice TA L.length tc,.slice SA 16 sc,.slice OA (za1 l).length oc,.map (some mb)]] #[],.func (.func 96) #[.agg #[.slice A ws.length c,.slice TA L.length tc,.slice SA 16 sc,.slice OA (za1 l).length oc,.map (some mb)]] #[],.func (.func 97) #[.agg #[.slice A ws.length c,.slice TA L.length tc,.slice SA 16 sc,.slice OA (za1 l).length oc,.map (some mb)]] #[],.func (.func 98) #[.agg #[.slice A ws.length c,.slice TA L.length tc,.slice SA 16 sc,.slice OA (za1 l).length oc,.map (some mb)]] #[],.func (.func 99) #[.agg #[.slice A ws.length c,.slice TA L.length tc,.slice SA 16 sc,.slice OA (za1 l).length oc,.map (some mb)]] #[]] 166)
     have BF4:=Bx.new (w2.alloc (.cells #[.slice A ws.length c,.slice TA L.length tc,.slice SA 16 sc,.slice OA (za1 l).length oc,.map (some mb)] 163)) 166 #[.func (.func 95) #[.agg #[.slice A ws.length c,.slice TA L.length tc,.slice SA 16 sc,.slice OA (za1 l).length oc,.map (some mb)]] #[],.func (.func 96) #[.agg #[.slice A ws.length c,.slice TA L.length tc,.slice SA 16 sc,.slice OA (za1 l).length oc,.map (some mb)]] #[],.func (.func 97) #[.agg #[.slice A ws.length c,.slice TA L.length tc,.slice SA 16 sc,.slice OA (za1 l).length oc,.map (some mb)]] #[],.func (.func 98) #[.agg #[.slice A ws.length c,.slice TA L.length tc,.slice SA 16 sc,.slice OA (za1 l).length oc,.map (some mb)]] #[],.func (.func 99) #[.agg #[.slice A ws.length c,.slice TA L.length tc,.slice SA 16 sc,.slice OA (za1 l).length oc,.map (some mb)]] #[]]
     rw[World.size_alloc] at BF4
     have HCK:=hid (fun W (hb:Below w2.heap.size w2 W)=>(And.intro (HHO.out.up hb hb.size) (And.intro (HHL.out.up hb hb.size) (And.intro (HHS.out.up hb hb.size) (zd0 HHM.out (hb.block _ hml))))))
     go_wp2_with fail
     obtain ⟨W4,hW4⟩:∃ W4,(w2.alloc (.cells #[.slice A ws.length c,.slice TA L.length tc,.slice SA 16 sc,.slice OA (za1 l).length oc,.map (some mb)] 163)).alloc (.cells #[.func (.func 95) #[.agg #[.slice A ws.length c,.slice TA L.length tc,.slice SA 16 sc,.slice OA (za1 l).length oc,.map (some mb)]] #[],.func (.func 96) #[.agg #[.slice A ws.length c,.slice TA L.length tc,.slice SA 16 sc,.slice OA (za1 l).length oc,.map (some mb)]] #[],.func (.func 97) #[.agg #[.slice A ws.length c,.slice TA L.length tc,.slice SA 16 sc,.slice OA (za1 l).length oc,.map (some mb)]] #[],.func (.func 98) #[.agg #[.slice A ws.length c,.slice TA L.length tc,.slice SA 16 sc,.slice OA (za1 l).length oc,.map (some mb)]] #[],.func (.func 99) #[.agg #[.slice A ws.length c,.slice TA L.length tc,.slice SA 16 sc,.slice OA (za1 l).length oc,.map (some mb)]] #[]] 166)=W4:=⟨_,rfl⟩
     rw[hW4] at hS4 b24 BX4 BF4 ⊢
     have HB24:=hid b24
     have HB4:=hid (HB2.out.trans (b24.mono hz2))
     have BX:=hid BX4
     have BF:=hid BF4
     have HS4:=hid hS4
     have HKC:Hid (∀ k,k<5→zLn ws (zfl ws t 8) (za1 l) k→∃ f,(#[.func (.func 95) #[.agg #[.slice A ws.length c,.slice TA L.length tc,.slice SA 16 sc,.slice OA (za1 l).length oc,.map (some mb)]] #[],.func (.func 96) #[.agg #[.slice A ws.length c,.slice TA L.length tc,.slice SA 16 sc,.slice OA (za1 l).length oc,.map (some mb)]] #[],.func (.func 97) #[.agg #[.slice A ws.length c,.slice TA L.length tc,.slice SA 16 sc,.slice OA (za1 l).length oc,.map (some mb)]] #[],.func (.func 98) #[.agg #[.slice A ws.length c,.slice TA L.length tc,.slice SA 16 sc,.slice OA (za1 l).length oc,.map (some mb)]] #[],.func (.func 99) #[.agg #[.slice A ws.length c,.slice TA L.length tc,.slice SA 16 sc,.slice OA (za1 l).length oc,.map (some mb)]] #[]]:Array Value)[k]? = some f∧∀ W,Below W4.heap.size W4 W→Calls Tryz.prog 100 #[.agg #[.slice A ws.length c,.slice TA L.length tc,.slice SA 16 sc,.slice OA (za1 l).length oc,.map (some mb)],f] W fun e w'=>e=.returned (.bool ((za1 l).all fun b => !wrK ws (zfl ws t 8) (za1 l) (7+k) b))∧Below W.heap.size W w'):=hid fun k hk hto=>by
      have hP:=PQ.out
      have F:∀ W,Below W4.heap.size W4 W→Below w2.heap.size w2 W:=fun W hW=>HB24.out.trans (hW.mono HB24.out.size)
      rw[←HLL.out] at hto ⊢
      have hRW:=fun W (hW:Below W4.heap.size W4 W)=>HR.out.up (HB2.out.trans ((F W hW).mono hz2)) (Nat.le_trans hz2 (F W hW).size)
      have h8:2≤k→∀ b ∈ za1 l,wrK ws (L.map Ty.l) (za1 l) 8 b=false:=fun h b hb=>hto 8 (by omega) (by omega) b hb
      rcases (show k=0∨k=1∨k=2∨k=3∨k=4 by omega) with rfl|rfl|rfl|rfl|rfl
      · exact ⟨_,rfl,fun W hW=>zE4 hP.bl HOB.out (HCK.out W (F W hW)).1⟩
      · exact ⟨_,rfl,fun W hW=>zD3 hP.bl HOB.out rfl HK.out (HCK.out W (F W hW)).1 (HCK.out W (F W hW)).2.1⟩
      · exact ⟨_,rfl,fun W hW=>zwp hP.bl HOB.out rfl (by omega) rfl HK.out (h8 (by omega)) (HCK.out W (F W hW)).1 (HCK.out W (F W hW)).2.1 (hRW W hW)⟩
      · exact ⟨_,rfl,fun W hW=>zyv hP.bl HOB.out rfl (by omega) rfl HOO.out HK.out (h8 (by omega)) (HCK.out W (F W hW)).1 (HCK.out W (F W hW)).2.1 (hRW W hW)⟩
      · exact ⟨_,rfl,fun W hW=>zEv hP.bl HOB.out rfl (by omega) rfl HOO.out HK.out (h8 (by omega)) (HCK.out W (F W hW)).1 (HCK.out W (F W hW)).2.1 (hRW W hW) (HCK.out W (F W hW)).2.2.2⟩
     have HT0:Hid (zLn ws (zfl ws t 8) (za1 l) 0):=hid fun r h1 h2=>by omega
     have HTN:=hid (fun k h h1=>zy9 (ws:=ws) (T:=zfl ws t 8) (O:=za1 l) (k:=k) h h1)
     have HTB:=hid (fun k h h1=>zHl (ws:=ws) (T:=zfl ws t 8) (O:=za1 l) (k:=k) h h1)
     have hgf:w2.heap.size+1<W4.heap.size:=by omega
     have hgs:w2.heap.size<W4.heap.size:=by omega
     clear hW4 hS4 b24 BX4 BF4
     go_loopw [36] (fun i wr=>∃ k:Nat,k≤5∧i=.int .i64 k∧Hid (zLn ws (zfl ws t 8) (za1 l) k)∧Below W4.heap.size W4 wr) (fun i _=>5 - (intOf i).toNat)
     case atStart=>exact ⟨0,by omega,rfl,HT0,Below.refl _ _⟩
     case round =>
      obtain ⟨k,hk,rfl,HT,hB⟩:=hrel
      by_cases hlt:k<5
      · obtain ⟨f,hf,hC⟩:=HKC.out k hlt HT.out
        have hc0:=(hB.cell (p:=⟨w2.heap.size+1,k,none⟩) hgf).trans ((BF.out.cell k).trans hf)
        have HC:=hid (hC wr hB)
        have HTS:=hid (HTN.out k HT.out)
        have HBK:=hid (HTB.out k hlt)
        obtain ⟨q,hq⟩:∃ q,((za1 l).all fun b => !wrK ws (zfl ws t 8) (za1 l) (7+k) b)=q:=⟨_,rfl⟩
        rw[hq] at HC HTS HBK
        obtain ⟨q0,q1,q2,q3,q4,-,-⟩:=(BX.out.up hB hgs).c5
        have HBW:=hid hB
        have hz:=hB.size
        have hki:(k:Int)<5:=by omega
        have hk0:(0:Int)≤(k:Int):=by omega
        clear hf hC hq hB
        cases q
        · have HV:=hid (HBAD.out (7+k) (by omega) (by
            cases hq:lay ws with
            | false=>rfl
            | true=>exact absurd (HIF.out.1 hq).2.2.2.2.2.1 (HBK.out rfl)))
          go_wp2_with fail
          refine HC.out.mono ?_
          rintro e w5 ⟨rfl,hB5⟩
          have HB5:=hid (HB4.out.trans ((HBW.out.trans (hB5.mono hz)).mono HB4.out.size))
          clear hB5
          go_wp2_with fail
          go_ret2
          exact ⟨HV.out,HB5.out⟩
        · have HV:=hid (HTS.out rfl)
          go_wp2_with fail
          refine HC.out.mono ?_
          rintro e w5 ⟨rfl,hB5⟩
          have HB5:=hid (HBW.out.trans (hB5.mono hz))
          clear hB5
          go_wp2_with fail
          go_roundw
          case rel=>exact ⟨k+1,by omega,by go_num,HV,HB5.out⟩
          case measure=>simp[intOf];omega
      · have HT5:=hid (show zLn ws (zfl ws t 8) (za1 l) 5 from fun r h1 h2 b hb=>HT.out r h1 (by omega) b hb)
        have hend:decide ((k:Int)<5)=false:=by rw[decide_eq_false_iff_not];omega
        have hendn:decide (k<5)=false:=by rw[decide_eq_false_iff_not];exact hlt
        obtain ⟨-,-,q2,-,-,-,-⟩:=(BX.out.up hB hgs).c5
        have HBW:=hid hB
        clear hlt hk HT hB
        go_wp2_with fail
        have HS0:Hid (zna (za1 l) (slL ws) 0):=hid fun i h h1=>by omega
        have HSN:=hid (fun k hk h h1=>zrw (O:=za1 l) (S:=slL ws) (k:=k) hk h h1)
        have HSL:=hid (zcy ws)
        have HGO:Hid (zna (za1 l) (slL ws) 16→lay ws=true):=hid fun h=>HIF.out.2 ⟨PQ.out.z1,PQ.out.z2,PQ.out.tys,PQ.out.sls,PQ.out.adj,HT5.out,fun s hs=>by
          obtain ⟨i,hi,rfl⟩:=List.getElem_of_mem hs
          exact h i hi (by rw[HSL.out] at hi;exact hi)⟩
        have HBS:Hid (∀ k (hk:k<(slL ws).length),zih (za1 l) (slL ws)[k]=false→lay ws=false):=hid fun k hk h=>by
          cases hq:lay ws with
          | false=>rfl
          | true=>rw[(HIF.out.1 hq).2.2.2.2.2.2 _ (List.getElem_mem hk)] at h;cases h
        have HAT:Hid (∀ k (hk:k<(slL ws).length),∃ g v:Nat,(slL ws)[k]=⟨(g:Int),(slL ws)[k].used,(v:Int)⟩∧v<4294967296):=hid fun k hk=>by
          rw[zjh ws hk]
          exact ⟨_,_,rfl,Nat.mod_lt _ (by decide)⟩
        clear hend hendn q2
        go_loopw [51] (fun i wr=>∃ k:Nat,k≤16∧i=.int .i64 k∧Hid (zna (za1 l) (slL ws) k)∧Below W4.heap.size W4 wr) (fun i _=>16 - (intOf i).toNat)
        case atStart=>exact ⟨0,by omega,rfl,HS0,HBW.out⟩
        case round =>
          obtain ⟨j,hj,rfl,HT,hB⟩:=hrel
          by_cases hlt:j<16
          · have hj2:j<(slL ws).length:=by rw[HSL.out];exact hlt
            obtain ⟨bS,oS,rfl,hbS,p0,p1,p2⟩:=RdS.at_ (show RdS wr wr.heap.size SA (slL ws) from (HCK.out wr (HB24.out.trans (hB.mono HB24.out.size))).2.2.1) hj2
            obtain ⟨g,v,hx,hv⟩:=HAT.out j hj2
            have HNX:=hid (HSN.out j hj2 HT.out)
            have HBD:=hid (HBS.out j hj2)
            obtain ⟨x,hxx⟩:∃ x,(slL ws)[j]=x:=⟨_,rfl⟩
            rw[hxx] at p0 p1 p2 hx HNX HBD
            obtain ⟨u,hu⟩:∃ u,x.used=u:=⟨_,rfl⟩
            rw[hu] at p1 hx
            subst hx
            dsimp only at p0 p2
            have hjj:(j:Int)<16:=by omega
            have hj0:(0:Int)≤(j:Int):=by omega
            obtain ⟨-,-,-,-,q4,-,-⟩:=(BX.out.up hB hgs).c5
            have hgw:w2.heap.size<wr.heap.size:=by have:=hB.size;omega
            have hz:=hB.size
            have HBN:=hid (hB.alloc hz (.cells #[.int .i64 (g:Int),.bool u,.int .i64 (v:Int)] 52))
            have HMN:=hid ((HCK.out wr (HB24.out.trans (hB.mono HB24.out.size))).2.2.2.alloc (.cells #[.int .i64 (g:Int),.bool u,.int .i64 (v:Int)] 52))
            clear hxx hu hj2 hB
            cases u
            · have HV:=hid (HNX.out rfl)
              go_wp2_with fail
              go_roundw
              case rel=>exact ⟨j+1,by omega,by go_num,HV,HBN.out⟩
              case measure=>simp[intOf];omega
            · have hwf:(Lit.int .i64 (v:Int)).wf=true:=by simp[Lit.wf,IntKind.min,IntKind.max,IntKind.signed,IntKind.bits];omega
              have hlk:=znj HMN.out zCk Tryz.underlying161 Tryz.underlying4 (zvl _) (keyOf_int_mk (P:=Tryz.prog) Tryz.underlying3 hwf) (c:=zlx (za1 l) v) (by rw[zsq,zva])
              have HSH:Hid (zih (za1 l) ⟨(g:Int),true,(v:Int)⟩=zlx (za1 l) v):=hid (by unfold zih;simp)
              obtain ⟨q,hq⟩:∃ q,zlx (za1 l) v=q:=⟨_,rfl⟩
              rw[hq] at hlk HSH
              clear hwf hq hv
              cases q
              · have HV:=hid (HBAD.out 12 (by decide) (HBD.out HSH.out))
                go_wp2_with fail
                go_ret2
                exact ⟨HV.out,HB4.out.trans (HBN.out.mono HB4.out.size)⟩
              · have HV:=hid (HNX.out HSH.out)
                go_wp2_with fail
                go_roundw
                case rel=>exact ⟨j+1,by omega,by go_num,HV,HBN.out⟩
                case measure=>simp[intOf];omega
          · have hend:decide ((j:Int)<16)=false:=by rw[decide_eq_false_iff_not];omega
            have hendn:decide (j<16)=false:=by rw[decide_eq_false_iff_not];exact hlt
            have HV:=hid (HGOOD.out (HGO.out (by have:=HT.out;rwa [show j=16 by omega] at this)))
            clear hlt hj HT
            go_wp2_with fail
            go_ret2
            exact ⟨HV.out,HB4.out.trans (hB.mono HB4.out.size)⟩
   · obtain ⟨hl,rfl⟩:=hbad h0
     have HV:=hid (HBAD.out r (by omega) hl)
     have e1:(r != 0)=true:=by rw[bne_iff_ne];exact h0
     clear hbad hgood
     go_wp2_with fail
     go_ret2
     exact ⟨HV.out,HB2.out.alloc hz2 _⟩
set_option maxRecDepth 100000 in
set_option maxHeartbeats 1000000 in
theorem zDx (A:Option Addr) (ws:List Nat) (c n:Nat) (w:World) (hn:ws.length=n) (hm:n≤9223372036854775807) (hc:n≤c) (hr:RdW w w.heap.size A ws) (ho:∀ x ∈ ws,x<18446744073709551616) :
   Calls Tryz.prog 16 #[.slice A n c] w fun e w'=>e=.returned (.int .i64 (zcz ws))∧Below w.heap.size w w':=by
 subst hn
 have HC:=hid (zy6 A ws c ws.length w rfl hm hc hr ho)
 unfold zD2 at HC
 clear hr ho hc hm
 cases hs:zah (ws.length:Int)
 · have HV:Hid (zcz ws=8):=hid (by unfold zcz;rw[hs];rfl)
   rw[zbw hs] at HC
   clear hs
   go_enter Tryz.func16,Tryz.ntmps16
   go_wp2_with fail
   refine HC.out.mono ?_
   rintro e w1 ⟨⟨r,rfl,-,-⟩,hB1⟩
   go_wp2_with fail
   go_ret
   exact ⟨by rw[HV.out];rfl,hB1⟩
 · have HV:Hid (zcz ws=if lay ws=true then 0 else 50):=hid (by unfold zcz;rw[hs];rfl)
   rw[zbc hs] at HC
   have HS:=hid hs
   clear hs
   go_enter Tryz.func16,Tryz.ntmps16
   go_wp2_with fail
   refine HC.out.mono ?_
   rintro e w1 ⟨⟨r,rfl,h0,hi⟩,hB1⟩
   have HI:=hid (hi HS.out)
   clear hi
   by_cases hr0:r=0
   · have HL:=hid (HI.out.1 hr0)
     subst hr0
     go_wp2_with fail
     go_ret
     exact ⟨by rw[HV.out,HL.out];rfl,hB1⟩
   · have HL:Hid (lay ws=false):=hid (by
      cases hq:lay ws with
      | false=>rfl
      | true=>exact absurd (HI.out.2 hq) hr0)
     have d1:decide ((0:Int)<r)=true:=by rw[decide_eq_true_iff];omega
     clear hr0 h0
     go_wp2_with fail
     go_ret
     exact ⟨by rw[HV.out,HL.out];rfl,hB1⟩
end Go.Proofs.YtpcajamacpbjcaaGreat
