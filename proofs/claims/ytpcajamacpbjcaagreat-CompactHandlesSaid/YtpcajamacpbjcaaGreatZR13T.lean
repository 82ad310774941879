/- The reference's types, read: what it returns for all words. -/
import Derived.Test.YtpcajamacpbjcaaGreatZR13R
import Derived.Test.YtpcajamacpbjcaaGreatZKRch
namespace Go.Proofs.YtpcajamacpbjcaaGreat
open Lib (hid)
open Go.RowKit
theorem zJo (a:Nat):∀ n,zl4 ((List.range n).map fun i=>a / 4 ^ (i+4) % 4) 4+256 * (a / 256 / 4 ^ n * 4 ^ n)=256 * (a / 256):=by
 intro n
 induction n with
 | zero=>simp[zl4]
 | succ n ih =>
  rw[List.range_succ,List.map_append,zm4]
  simp only[List.map_cons,List.map_nil,zl4,List.length_map,List.length_range,Nat.add_zero]
  have e1:a / 256 / 4 ^ (n+1)=a / 256 / 4 ^ n / 4:=by rw[Nat.pow_succ,Nat.div_div_eq_div_mul (a / 256)]
  have e2:a / 4 ^ (n+4)=a / 256 / 4 ^ n:=by
   rw[Nat.div_div_eq_div_mul,show (4:Nat) ^ (n+4)=256 * 4 ^ n by rw[Nat.pow_add,Nat.mul_comm]]
  rw[e1,e2]
  obtain ⟨q,hq⟩:∃ q,a / 256 / 4 ^ n=q:=⟨_,rfl⟩
  rw[hq] at ih ⊢
  have e3:(4:Nat) ^ (4+n)=256 * 4 ^ n:=by rw[Nat.pow_add]
  have e4:(4:Nat) ^ (n+1)=4 * 4 ^ n:=by rw[Nat.pow_succ,Nat.mul_comm]
  rw[e3,e4]
  obtain ⟨p,hp⟩:∃ p,(4:Nat) ^ n=p:=⟨_,rfl⟩
  rw[hp] at ih ⊢
  have e5:q * p=(q % 4) * p+(q / 4) * (4 * p):=by
   have:q=4 * (q / 4)+q % 4:=by omega
   conv=>lhs;rw[this]
   rw[Nat.add_mul,Nat.mul_comm 4 (q / 4),Nat.mul_assoc,Nat.add_comm]
  rw[e5] at ih
  have e6:q % 4 * (256 * p)=256 * (q % 4 * p):=by rw[Nat.mul_left_comm]
  omega
def zBd (a:Nat):Bool:=decide (a % 256≤8) && (a / 256 / 4 ^ (a % 256) == 0 && zdk (zc9 a))
theorem zHu (a b:Nat):zb7 a b=(zBd a && zgi a == b):=by
 rw[Bool.eq_iff_iff]
 constructor
 · intro h
   obtain ⟨h1,h2,h3,h4⟩:=zr3 h
   unfold zBd
   simp[h1,h2,h3,h4]
 · intro h
   unfold zBd at h
   simp only[Bool.and_eq_true,decide_eq_true_eq,beq_iff_eq] at h
   obtain ⟨⟨h1,h2,h3⟩,h4⟩:=h
   have key:=zJo a (a % 256)
   rw[h2] at key
   have e:zgu (zc9 a)=a:=by
    have:zgu (zc9 a)=(zc9 a).length+zl4 (zc9 a) 4:=rfl
    rw[zet] at this
    have e2:zl4 (zc9 a) 4=256 * (a / 256):=by
     have:zl4 (zc9 a) 4=zl4 ((List.range (a % 256)).map fun i=>a / 4 ^ (i+4) % 4) 4:=rfl
     rw[this];omega
    omega
   unfold zb7
   simp[h1,h3,h4,e]
set_option maxRecDepth 100000 in
set_option maxHeartbeats 1000000 in
theorem zHd (A:Option Addr) (l:List Nat) (c n B:Nat) (w:World) (hn:l.length=n) (h8:n≤8) (h3:∀ x ∈ l,x≤3) (hr:RdY w B A l) :
   Calls Tryz.prog 136 #[.slice A n c] w fun e w'=>e=.returned (.int .i64 (if zdk l=true then 0 else 8))∧w=w':=by
 by_cases hk:zdk l=true
 · rw[if_pos hk]
   exact zoh A l c n B w hn h8 hk hr
 · rw[if_neg hk]
   subst hn
   have HR:=hid hr
   have H3:=hid h3
   have HK:=hid hk
   clear hr hk h3
   go_enter Tryz.func136,Tryz.ntmps136
   go_wp2_with fail
   go_loop [3] (fun i=>∃ k:Nat,k≤l.length∧i=.int .i64 k∧Hid (∀ j (h:j<l.length),j<k→1≤l[j])) (fun i=>l.length - (intOf i).toNat)
   case atStart=>exact ⟨0,Nat.zero_le _,rfl,hid fun j h h2=>absurd h2 (by omega)⟩
   case round =>
    obtain ⟨k,hk,rfl,HP⟩:=hrel
    by_cases hlt:k<l.length
    · obtain ⟨b,off,rfl,hb,h0⟩:=HR.out.at_ hlt
      have g2:=H3.out l[k] (List.getElem_mem hlt)
      have HPN:Hid (1≤l[k]→∀ j (h:j<l.length),j<k+1→1≤l[j]):=hid fun h1 j h h2=>by
        rcases Nat.lt_or_ge j k with h3|h3
        · exact HP.out j h h3
        · have:j=k:=by omega
          subst this;exact h1
      obtain ⟨x,hx⟩:∃ x,l[k]=x:=⟨_,rfl⟩
      rw[hx] at h0 g2 HPN
      clear hx
      by_cases hx0:x=0
      · subst hx0
        go_wp2_with fail
        go_ret
        exact ⟨rfl,rfl⟩
      · have e1:((x:Int) == 0)=false:=by rw[beq_eq_false_iff_ne];omega
        have HN:=hid (HPN.out (by omega))
        clear hx0
        go_wp2_with fail
        go_round
        case rel=>exact ⟨k+1,by omega,by go_num,HN⟩
        case measure=>simp[intOf];omega
    · exfalso
      refine HK.out ((zco l).2 fun x hx => ?_)
      obtain ⟨j,hj,rfl⟩:=List.getElem_of_mem hx
      exact ⟨HP.out j hj (by omega),H3.out _ (List.getElem_mem hj)⟩
theorem fldL_3 (a:Nat):∀ x ∈ zc9 a,x≤3:=fun x hx=>by
 unfold zc9 at hx
 obtain ⟨i,-,rfl⟩:=List.mem_map.1 hx
 omega
theorem zBy (a m:Nat):∀ x ∈ (zc9 a).take m,x≤3:=fun x hx=>fldL_3 a x (List.mem_of_mem_take hx)
def zLf (H a:Nat) (e:Ending) (w':World):Prop:=∃ A n c,e=.returned (.tuple #[.slice A n c,.bool (zBd a)])∧(zBd a=true→n=(zc9 a).length∧w'.ownsRow H 5 1 (.slice A n c) n ((zc9 a).flatMap zbg))
set_option maxRecDepth 100000 in
set_option maxHeartbeats 4000000 in
theorem zye (a:Nat) (w:World) (ha:a<18446744073709551616) :
  Calls Tryz.prog 287 #[.int .u64 (a:Int)] w fun e w'=>zLf w.heap.size a e w'∧Below w.heap.size w w':=by
 have HFL:=hid (zet a)
 have HFG:=hid (fun k h=>zpq a k h)
 have HST:=hid (fun k=>zCm a k)
 have H3:=hid (zBy a)
 have HT:Hid (zBd a=(decide (a % 256≤8) && (a / 256 / 4 ^ (a % 256) == 0 && zdk (zc9 a)))):=hid rfl
 obtain ⟨m,hmm⟩:∃ m,a % 256=m:=⟨_,rfl⟩
 rw[hmm] at HFL HFG HT
 have hmi:(a:Int) % 256=(m:Int):=by omega
 have HMI:=hid hmi
 have w1':IntKind.u64.wrap ((a:Int) / 256)=(a:Int) / 256:=IntWalk.u64_in _ (by omega)
 have ha0:(0:Int)≤(a:Int):=by omega
 have HA:=hid ha
 clear hmm ha hmi
 obtain ⟨i0,hi,hz0,hz1,hz2⟩:=info_parts zjj
 have HI:=hid hi
 have HZ0:=hid hz0
 have HZ1:=hid hz1
 have HZ2:=hid hz2
 clear hi hz0 hz1 hz2
 go_enter Tryz.func287,Tryz.ntmps287
 go_wp2_with fail
 go_loopw [5,6,7] (fun v r i wr=>∃ k:Nat,k≤m∧k≤8∧i=.int .u64 k∧r=.int .u64 ((a / 256 / 4 ^ k:Nat):Int)∧wr.ownsRow w.heap.size 5 1 v k (((zc9 a).take k).flatMap zbg)∧Below w.heap.size w wr) (fun _ _ i _=>m - (intOf i).toNat)
 case atStart=>exact ⟨0,Nat.zero_le _,Nat.zero_le _,rfl,by simp,World.ownsRow_nil _ _ _ _,Below.refl _ _⟩
 case round =>
  obtain ⟨k,hk,hk8,rfl,rfl,hown,hB⟩:=hrel
  have hz:=hB.size
  by_cases hlt:k<m∧k<8
  · obtain ⟨hlt,hlt8⟩:=hlt
    obtain ⟨t1,t2⟩:=HST.out k
    have hg:=HFG.out k hlt
    rw[←t1] at hg
    have hrl:a / 256 / 4 ^ k<18446744073709551616:=Nat.lt_of_le_of_lt (Nat.div_le_self _ _) (Nat.lt_of_le_of_lt (Nat.div_le_self _ _) HA.out)
    obtain ⟨r,hr⟩:∃ r,a / 256 / 4 ^ k=r:=⟨_,rfl⟩
    rw[hr] at t1 t2 hg hrl
    simp only[hr]
    have HR2:=hid (show (((a / 256 / 4 ^ (k+1):Nat)):Int)=(r:Int) / 4 by rw[←t2];omega)
    have HFL2:=hid (show ((zc9 a).take (k+1)).flatMap zbg=((zc9 a).take k).flatMap zbg++[.int .u8 ((r:Int) % 4)] by
      have hl:k<(zc9 a).length:=by rw[HFL.out];exact hlt
      rw[List.take_succ_eq_append_getElem hl,zb6]
      rw[List.getElem?_eq_getElem hl] at hg
      rw[Option.some.inj hg];rfl)
    have w2':IntKind.u64.wrap ((r:Int) / 4)=(r:Int) / 4:=IntWalk.u64_in _ (by omega)
    have hr00:(0:Int)≤(r:Int):=by omega
    have hki:decide ((k:Int)<(a:Int) % 256)=true:=by rw[decide_eq_true_iff,HMI.out];omega
    have hk8':(k:Int)<8:=by omega
    have hw8:IntKind.u8.wrap ((r:Int) % 4)=(r:Int) % 4:=IntWalk.u8_in _ (by omega)
    clear hg hr t1 t2 hrl
    go_wp2_with (at_builtin;refine wpList_append_own _ rfl _ _ 113 rfl w.heap.size 5 i0 _ 1 1 Tryz.underlying113 HI.out HZ0.out HZ1.out HZ2.out rfl (by decide) _ _ _ rfl (hown.alloc _) ⟨_,0,none⟩ 1 1 [.int .u8 ((r:Int) % 4)] rfl rfl (zcl _ _ _) (by simp[Value.oneCell']) (by unfold maxLen;omega) (by omega) (zcq hB.size) ?_;intro v1 w1 hown1 hg1 _;have hB1:=zaw hB hB.size hown hg1)
    go_roundw
    case rel=>exact ⟨k+1,by omega,by omega,by go_num,by rw[HR2.out],by rw[HFL2.out];exact hown1,hB1⟩
    case measure=>simp[intOf];omega
  · obtain ⟨A1,c1,rfl⟩:=zbb hown
    have hlen:((zc9 a).take k).length=k:=by rw[List.length_take,HFL.out];omega
    have HC:=hid (zHd A1 ((zc9 a).take k) c1 k wr.heap.size wr hlen hk8 (H3.out k) (Rd.of_own hown))
    have HRD:=hid hown
    obtain ⟨r,hr⟩:∃ r,a / 256 / 4 ^ k=r:=⟨_,rfl⟩
    have HRR:=hid hr
    simp only[hr]
    have hcond:(decide ((k:Int)<(a:Int) % 256) && decide ((k:Int)<8))=false:=by
      rw[Bool.and_eq_false_iff,decide_eq_false_iff_not,decide_eq_false_iff_not,HMI.out];omega
    by_cases hm8:m≤8
    · have hkm:k=m:=by omega
      subst hkm
      rw[List.take_of_length_le (by rw[HFL.out];exact Nat.le_refl _)] at HC HRD
      have d8:decide ((a:Int) % 256≤8)=true:=by rw[decide_eq_true_iff,HMI.out];omega
      have dk:decide ((k:Int)<(a:Int) % 256)=false:=by rw[decide_eq_false_iff_not,HMI.out];omega
      by_cases hr0:r=0
      · subst hr0
        cases hkd:zdk (zc9 a)
        · have HV:=hid (show zBd a=false by rw[HT.out,hkd];simp)
          rw[hkd] at HC
          clear hkd hown hr hlt hcond
          go_wp2_with fail
          refine HC.out.mono ?_
          rintro e w1 ⟨rfl,rfl⟩
          go_wp2_with fail
          go_ret2
          exact ⟨⟨A1,k,c1,by rw[HV.out];rfl,fun h=>by rw[HV.out] at h;cases h⟩,hB⟩
        · have HV:=hid (show zBd a=true by rw[HT.out,hkd,HRR.out,decide_eq_true hm8];rfl)
          rw[hkd] at HC
          clear hkd hown hr hlt hcond
          go_wp2_with fail
          refine HC.out.mono ?_
          rintro e w1 ⟨rfl,rfl⟩
          go_wp2_with fail
          go_ret2
          exact ⟨⟨A1,k,c1,by rw[HV.out];rfl,fun _=>⟨HFL.out.symm,HRD.out⟩⟩,hB⟩
      · have HV:=hid (show zBd a=false by rw[HT.out,HRR.out,show (r == 0)=false by rw[beq_eq_false_iff_ne];exact hr0];simp)
        have e0:((r:Int) == 0)=false:=by rw[beq_eq_false_iff_ne];omega
        have e0n:(r == 0)=false:=by rw[beq_eq_false_iff_ne];exact hr0
        clear hown hr hlt hcond hr0
        go_wp2_with fail
        go_ret2
        exact ⟨⟨A1,k,c1,by rw[HV.out];rfl,fun h=>by rw[HV.out] at h;cases h⟩,hB⟩
    · have hk88:k=8:=by omega
      subst hk88
      have HV:=hid (show zBd a=false by rw[HT.out,decide_eq_false hm8];rfl)
      have d8:decide ((a:Int) % 256≤8)=false:=by rw[decide_eq_false_iff_not,HMI.out];omega
      have dk:decide ((8:Int)<(a:Int) % 256)=true:=by rw[decide_eq_true_iff,HMI.out];omega
      clear hown hr hlt hcond hm8 HC
      go_wp2_with fail
      go_ret2
      exact ⟨⟨A1,8,c1,by rw[HV.out];rfl,fun h=>by rw[HV.out] at h;cases h⟩,hB⟩
set_option maxRecDepth 100000 in
set_option maxHeartbeats 2000000 in
theorem zwz (a b:Nat) (w:World) (ha:a<18446744073709551616) :
   Calls Tryz.prog 261 #[.int .u64 (a:Int),.int .u64 (b:Int)] w fun e w'=>zlh w.heap.size a b e w'∧Below w.heap.size w w':=by
 have HC:=hid (zye a w ha)
 cases ht:zBd a
 · have h:zb7 a b=false:=by rw[zHu,ht];rfl
   have e1:zbd a b=[]:=by unfold zbd;rw[h];rfl
   have e2:zef a b=50:=by unfold zef;rw[h];rfl
   have HV:=hid (And.intro e1 e2)
   unfold zLf at HC
   rw[ht] at HC
   clear h ht e1 e2
   go_enter Tryz.func261,Tryz.ntmps261
   go_wp2_with fail
   refine HC.out.mono ?_
   rintro e w1 ⟨⟨A1,n1,c1,rfl,-⟩,hB1⟩
   go_wp2_with fail
   go_ret2
   exact ⟨⟨none,0,by rw[HV.out.1,HV.out.2];rfl,by rw[HV.out.1];exact World.ownsRow_nil _ _ _ _⟩,hB1⟩
 · unfold zLf at HC
   rw[ht] at HC
   have HS:=hid (fun A W (hr:RdW W W.heap.size A [a])=>zqi A [a] 1 1 W rfl (by omega) hr (fun x hx=>by rw[List.mem_singleton] at hx;rw[hx];exact ha))
   rw[show zbh 14695981039346656037 [a]=zgi a from rfl] at HS
   have HT:=hid (zHu a b)
   rw[ht] at HT
   obtain ⟨q,hq⟩:∃ q,zgi a=q:=⟨_,rfl⟩
   rw[hq] at HS HT
   clear ht hq ha
   by_cases hs:q=b
   · have h:zb7 a b=true:=by rw[HT.out,hs];simp
     have e1:zbd a b=zc9 a:=by unfold zbd;rw[if_pos h]
     have e2:zef a b=0:=by unfold zef;rw[if_pos h]
     have HV:=hid (And.intro e1 e2)
     subst hs
     have hne:((q:Int) != (q:Int))=false:=by simp
     clear h e1 e2
     go_enter Tryz.func261,Tryz.ntmps261
     go_wp2_with fail
     refine HC.out.mono ?_
     rintro e w1 ⟨⟨A1,n1,c1,rfl,hown⟩,hB1⟩
     obtain ⟨rfl,hown⟩:=hown trivial
     have hz1:=hB1.size
     have HB1:=hid hB1
     have HO1:=hid hown
     clear hB1 hown
     go_wp2_with fail
     have xb:=Bx.new w1 53 #[.int .u64 (a:Int)]
     refine (HS.out _ _ (show Rd _ _ _ _ from Rd.of_bx xb xb.lt)).mono ?_
     rintro e w2 ⟨rfl,hB2⟩
     have HB2:=hid ((HB1.out.alloc hz1 (.cells #[.int .u64 (a:Int)] 53)).trans (hB2.mono (by simp;omega)))
     have HO2:=hid (zak (HO1.out.alloc (.cells #[.int .u64 (a:Int)] 53)) hB2 (Nat.le_refl _))
     clear xb hB2
     go_wp2_with fail
     go_ret2
     exact ⟨⟨A1,c1,by rw[HV.out.1,HV.out.2];rfl,by rw[HV.out.1];exact HO2.out⟩,HB2.out⟩
   · have h:zb7 a b=false:=by rw[HT.out,show (q == b)=false by rw[beq_eq_false_iff_ne];exact hs];rfl
     have e1:zbd a b=[]:=by unfold zbd;rw[h];rfl
     have e2:zef a b=50:=by unfold zef;rw[h];rfl
     have HV:=hid (And.intro e1 e2)
     have hne:((b:Int) != (q:Int))=true:=by rw[bne_iff_ne];omega
     have hnen:(b != q)=true:=by rw[bne_iff_ne];omega
     clear h hs e1 e2
     go_enter Tryz.func261,Tryz.ntmps261
     go_wp2_with fail
     refine HC.out.mono ?_
     rintro e w1 ⟨⟨A1,n1,c1,rfl,-⟩,hB1⟩
     have hz1:=hB1.size
     have HB1:=hid hB1
     clear hB1
     go_wp2_with fail
     have xb:=Bx.new w1 53 #[.int .u64 (a:Int)]
     refine (HS.out _ _ (show Rd _ _ _ _ from Rd.of_bx xb xb.lt)).mono ?_
     rintro e w2 ⟨rfl,hB2⟩
     have HB2:=hid ((HB1.out.alloc hz1 (.cells #[.int .u64 (a:Int)] 53)).trans (hB2.mono (by simp;omega)))
     clear xb hB2
     go_wp2_with fail
     go_ret2
     exact ⟨⟨none,0,by rw[HV.out.1,HV.out.2];rfl,by rw[HV.out.1];exact World.ownsRow_nil _ _ _ _⟩,HB2.out⟩
end Go.Proofs.YtpcajamacpbjcaaGreat
