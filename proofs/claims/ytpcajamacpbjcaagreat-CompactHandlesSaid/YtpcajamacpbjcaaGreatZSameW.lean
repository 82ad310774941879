/- Lists of words that are compared. -/
import Derived.Test.YtpcajamacpbjcaaGreatZKMove
namespace Go.Proofs.YtpcajamacpbjcaaGreat
open Lib (hid)
open Go.RowKit
set_option maxRecDepth 100000 in
set_option maxHeartbeats 2000000 in
theorem zi7 (A B:Option Addr) (a b:List Nat) (n m c d H:Nat) (w:World) (hn:a.length=n) (hm:b.length=m) (h1:n≤1000000) (ha:RdW w H A a) (hb:RdW w H B b) (hH:H≤w.heap.size) :
   Calls Tryz.prog 19 #[.slice A n c,.slice B m d] w fun e w'=>e=.returned (.bool (decide (a=b)))∧Below w.heap.size w w':=by
 subst hn hm
 have HA:=hid (ha.more hH)
 have HB:=hid (hb.more hH)
 clear ha hb hH
 by_cases hl:a.length=b.length
 · have HY:Hid (a.take a.length=b.take a.length→decide (a=b)=true):=hid fun h=>zvn hl h
   have HN:Hid (∀ k (h:k<a.length) (h2:k<b.length),a[k]≠b[k]→decide (a=b)=false):=hid fun k h h2 h3=>zzh h h2 h3
   obtain ⟨q,hq⟩:∃ q,decide (a=b)=q:=⟨_,rfl⟩
   rw[hq] at HY HN ⊢
   have hne:((a.length:Int) != (b.length:Int))=false:=by rw[bne_eq_false_iff_eq];omega
   have hnen:(a.length != b.length)=false:=by rw[bne_eq_false_iff_eq];exact hl
   have HL:=hid hl
   clear hq hl
   go_enter Tryz.func19,Tryz.ntmps19
   go_wp2_with fail
   go_loopw [5] (fun i wr=>∃ k:Nat,k≤a.length∧i=.int .i64 k∧Hid (a.take k=b.take k)∧Below w.heap.size w wr) (fun i _=>a.length - (intOf i).toNat)
   case atStart=>exact ⟨0,Nat.zero_le _,rfl,rfl,Below.refl _ _⟩
   case round =>
    obtain ⟨k,hk,rfl,HT,hB⟩:=hrel
    by_cases hlt:k<a.length
    · have hlt2:k<b.length:=by have:=HL.out;omega
      obtain ⟨g1,o1,rfl,hg1,p0⟩:=RdW.at_ (Rd.below HA.out hB) hlt
      obtain ⟨g2,o2,rfl,hg2,r0⟩:=RdW.at_ (Rd.below HB.out hB) hlt2
      have HTS:=hid (fun h=>zq5 hlt hlt2 HT.out h)
      have HNN:=hid (HN.out k hlt hlt2)
      obtain ⟨x,hx⟩:∃ x,a[k]=x:=⟨_,rfl⟩
      obtain ⟨y,hy⟩:∃ y,b[k]=y:=⟨_,rfl⟩
      rw[hx] at p0 HTS HNN
      rw[hy] at r0 HTS HNN
      have hk1:(k:Int)<(a.length:Int):=by omega
      have hk2:(k:Int)<(b.length:Int):=by omega
      have hk0:(0:Int)≤(k:Int):=by omega
      clear hx hy
      have hways:((x == y)=true∧((x:Int) != (y:Int))=false∧(x != y)=false)∨((x == y)=false∧((x:Int) != (y:Int))=true∧(x != y)=true):=by
        by_cases e:x=y
        · left;subst e;simp
        · right;exact ⟨by rw[beq_eq_false_iff_ne];exact e,by rw[bne_iff_ne];omega,by rw[bne_iff_ne];exact e⟩
      rcases hways with ⟨e1,e2,e3⟩|⟨e1,e2,e3⟩
      · have HE:=hid (HTS.out (by rw[beq_iff_eq] at e1;exact e1))
        go_wp2_with fail
        first
          | (go_region_held3 (fun X:World=>X.cell? ⟨g1,o1+k,none⟩=some (.int .u64 (x:Int))∧X.cell? ⟨g2,o2+k,none⟩=some (.int .u64 (y:Int))) (go_keep) (fail))
          | fail
        go_wp2_with fail
        go_roundw
        case rel=>exact ⟨k+1,by omega,by go_num,HE.out,hB.drew⟩
        case measure=>simp[intOf];omega
      · have HE:=hid (HNN.out (by intro h;rw[h] at e1;simp at e1))
        go_wp2_with fail
        first
          | (go_region_held3 (fun X:World=>X.cell? ⟨g1,o1+k,none⟩=some (.int .u64 (x:Int))∧X.cell? ⟨g2,o2+k,none⟩=some (.int .u64 (y:Int))) (go_keep) (fail))
          | fail
        go_wp2_with fail
        go_ret
        exact ⟨by rw[HE.out];rfl,hB.drew⟩
    · have HE:=hid (HY.out (by have:=HT.out;rwa [show k=a.length by omega] at this))
      go_wp2_with fail
      go_ret
      exact ⟨by rw[HE.out];rfl,hB⟩
 · have HN:=hid (zu0 hl)
   have hne:((a.length:Int) != (b.length:Int))=true:=by rw[bne_iff_ne];omega
   have hnen:(a.length != b.length)=true:=by rw[bne_iff_ne];exact hl
   clear hl
   go_enter Tryz.func19,Tryz.ntmps19
   go_wp2_with fail
   go_ret
   exact ⟨by rw[HN.out];rfl,Below.refl _ _⟩
end Go.Proofs.YtpcajamacpbjcaaGreat
