/- Texts laid together: Ref13 Bld Pair. -/
import Derived.Test.YtpcajamacpbjcaaGreatZKHeap
import Derived.Test.YtpcajamacpbjcaaGreatZKRefs
import Derived.Test.YtpcajamacpbjcaaGreatZKHead
import Derived.Test.YtpcajamacpbjcaaGreatZKMove
namespace Go.Proofs.YtpcajamacpbjcaaGreat
open Lib (hid)
open Go.RowKit
def fN:List Nat→Nat
 | []=>0
 | k :: l=>fN l * 4+k
theorem zKa (l:List Nat):∀ j,zl4 l j=4 ^ j * fN l:=by
 induction l with
 | nil=>intro j;rfl
 | cons k l ih=>intro j;simp only[zl4,fN,ih];rw[Nat.pow_succ,Nat.mul_add,Nat.mul_comm k,Nat.mul_comm (fN l) 4,Nat.mul_assoc];omega
theorem zJl (l:List Nat):fN l * 256+l.length=zgu l:=by
 unfold zgu
 rw[zKa,show (4:Nat) ^ 4=256 by decide];omega
theorem fN_lt {l:List Nat} (h:zdk l=true):fN l<4 ^ l.length:=by
 induction l with
 | nil=>simp[fN]
 | cons k l ih =>
  rw[zco] at h
  have h1:=ih ((zco l).2 fun x hx=>h x (by simp[hx]))
  have h2:=h k (by simp)
  simp only[fN,List.length_cons,Nat.pow_succ];omega
theorem zIz {l:List Nat} {k:Nat} (hk:k<l.length):fN (l.drop k)=fN (l.drop (k+1)) * 4+l[k]:=by rw[List.drop_eq_getElem_cons hk];rfl
theorem zod {l:List Nat} (h8:l.length≤8) (h:zdk l=true) (k:Nat):fN (l.drop k)<65536:=by
 have h1:zdk (l.drop k)=true:=(zco _).2 fun x hx=>(zco l).1 h x (List.mem_of_mem_drop hx)
 have h2:=fN_lt h1
 have h3:4 ^ (l.drop k).length≤4 ^ 8:=Nat.pow_le_pow_right (by omega) (by rw[List.length_drop];omega)
 have h4:(4:Nat) ^ 8=65536:=by decide
 omega
section
set_option maxRecDepth 100000
set_option maxHeartbeats 1000000
theorem zy1 (A:Option Addr) (l:List Nat) (c n B:Nat) (w:World) (hn:l.length=n) (h8:n≤8) (hk:zdk l=true) (hr:RdY w B A l) :
  Calls Tryz.prog 137 #[.slice A n c] w fun e w'=>e=.returned (.int .u64 (zgu l:Nat))∧w=w':=by
 subst hn
 have HR:=hid hr
 have HT:=hid (zJl l)
 have HK:=hid hk
 clear hr hk
 go_enter Tryz.func137,Tryz.ntmps137
 go_wp2_with fail
 go_loop [3,4] (fun s i=>∃ k:Nat,k≤l.length∧i=.int .i64 ((k:Int) - 1)∧s=.int .u64 (fN (l.drop k):Nat)) (fun _ i=>(intOf i+1).toNat)
 case atStart=>exact ⟨l.length,Nat.le_refl _,rfl,by rw[List.drop_length];rfl⟩
 case round =>
  obtain ⟨k,hk,rfl,rfl⟩:=hrel
  cases k with
  | zero =>
   have hlt:=zod h8 HK.out 0
   rw[List.drop_zero] at hlt ⊢
   obtain ⟨q,hq⟩:∃ q,fN l=q:=⟨_,rfl⟩
   rw[hq] at hlt HT ⊢
   have hq0:(0:Int)≤(q:Int):=by omega
   have hq1:(q:Int)<65536:=by omega
   clear hq
   go_wp2_with fail
   go_ret
   exact ⟨by rw[←HT.out];try simp,rfl⟩
  | succ k =>
   rw[show (((k+1:Nat):Int) - 1)=(k:Int) by omega]
   have hlt:k<l.length:=by omega
   obtain ⟨b,off,rfl,hb,h0⟩:=HR.out.at_ hlt
   have hq:=zod h8 HK.out (k+1)
   have HS:=hid (zIz hlt)
   have hx3:=((zco l).1 HK.out l[k] (List.getElem_mem hlt)).2
   obtain ⟨x,hx⟩:∃ x,l[k]=x:=⟨_,rfl⟩
   obtain ⟨q,hq2⟩:∃ q,fN (l.drop (k+1))=q:=⟨_,rfl⟩
   rw[hx] at h0 HS hx3
   rw[hq2] at hq HS ⊢
   have hq0:(0:Int)≤(q:Int):=by omega
   have hq1:(q:Int)<65536:=by omega
   have hx0:(0:Int)≤(x:Int):=by omega
   have hx1:(x:Int)≤3:=by omega
   have hk0:(0:Int)≤(k:Int):=by omega
   have hkl:(k:Int)<(l.length:Int):=by omega
   clear hx hq2
   go_wp2_with fail
   go_round
   case rel=>exact ⟨k,by omega,rfl,by rw[HS.out];simp⟩
   case measure=>simp[intOf] <;> omega
theorem zoh (A:Option Addr) (l:List Nat) (c n B:Nat) (w:World) (hn:l.length=n) (h8:n≤8) (hk:zdk l=true) (hr:RdY w B A l) :
  Calls Tryz.prog 136 #[.slice A n c] w fun e w'=>e=.returned (.int .i64 0)∧w=w':=by
 subst hn
 have HR:=hid hr
 have HK:=hid hk
 clear hr hk
 go_enter Tryz.func136,Tryz.ntmps136
 go_wp2_with fail
 go_loop [3] (fun i=>∃ k:Nat,k≤l.length∧i=.int .i64 k) (fun i=>l.length - (intOf i).toNat)
 case atStart=>exact ⟨0,Nat.zero_le _,rfl⟩
 case round =>
  obtain ⟨k,hk,rfl⟩:=hrel
  by_cases hlt:k<l.length
  · obtain ⟨b,off,rfl,hb,h0⟩:=HR.out.at_ hlt
    obtain ⟨g1,g2⟩:=(zco l).1 HK.out l[k] (List.getElem_mem hlt)
    obtain ⟨x,hx⟩:∃ x,l[k]=x:=⟨_,rfl⟩
    rw[hx] at h0 g1 g2
    have e1:((x:Int) == 0)=false:=by rw[beq_eq_false_iff_ne];omega
    clear hx
    go_wp2_with fail
    go_round
    case rel=>exact ⟨k+1,by omega,by go_num⟩
    case measure=>simp[intOf];omega
  · go_wp2_with fail
    go_ret
    exact ⟨rfl,rfl⟩
theorem zqi (A:Option Addr) (l:List Nat) (c n:Nat) (w:World) (hn:l.length=n) (hm:n≤2048) (hr:RdW w w.heap.size A l) (ho:∀ x ∈ l,x<18446744073709551616) :
  Calls Tryz.prog 138 #[.slice A n c] w fun e w'=>e=.returned (.int .u64 (zbh 14695981039346656037 l:Nat))∧Below w.heap.size w w':=by
 have HC:=hid (zv2 14695981039346656037 A l c n w hn hm (by omega) hr ho)
 clear hr ho
 obtain ⟨q,hq⟩:∃ q,zbh 14695981039346656037 l=q:=⟨_,rfl⟩
 rw[hq] at HC ⊢
 clear hq
 go_enter Tryz.func138,Tryz.ntmps138
 go_wp2_with fail
 refine HC.out.mono ?_
 rintro e w1 ⟨rfl,hB1⟩
 go_wp2_with fail
 go_ret
 exact ⟨rfl,hB1⟩
end
set_option maxRecDepth 100000 in
set_option maxHeartbeats 2000000 in
theorem zyk (A:Option Addr) (l:List Nat) (c n H:Nat) (w:World) (hn:l.length=n) (h8:n≤8) (hk:zdk l=true) (hr:RdY w H A l) (hH:H≤w.heap.size) :
  Calls Tryz.prog 89 #[.slice A n c] w fun e w'=>e=.returned (.tuple #[zB2 (zgu l) (zgi (zgu l)),.int .i64 0])∧Below w.heap.size w w':=by
 have hra:RdY (w.alloc (.cells #[.int .u64 0,.int .u64 0] 157)) H A l:=Rd.alloc hr hH _
 have HK:=hid (zoh A l c n H (w.alloc (.cells #[.int .u64 0,.int .u64 0] 157)) hn h8 hk hra)
 have HF:=hid (zy1 A l c n H (w.alloc (.cells #[.int .u64 0,.int .u64 0] 157)) hn h8 hk hra)
 have bx:=Bx.new w 157 #[.int .u64 0,.int .u64 0]
 have hlt:=zBj (by omega) hk
 have HSM:Hid (zbh 14695981039346656037 [zgu l]=zgi (zgu l)):=hid rfl
 obtain ⟨q,hq⟩:∃ q,zgu l=q:=⟨_,rfl⟩
 rw[hq] at HF hlt HSM ⊢
 have HV:Hid (zB2 q (zgi q)=.agg #[.int .u64 (q:Int),.int .u64 (zgi q:Nat)]):=hid rfl
 have hi2:(Tryz.prog.info? 157).map (·.size)=some 2:=by kernel_rfl
 have BX:=hid bx
 clear hr hra hk hq bx hn
 go_enter Tryz.func89,Tryz.ntmps89
 go_wp2_with fail
 refine HK.out.mono ?_
 rintro e w1 ⟨rfl,rfl⟩
 go_wp2_with fail
 refine HF.out.mono ?_
 rintro e w1 ⟨rfl,rfl⟩
 go_wp2_with fail
 refine HF.out.mono ?_
 rintro e w1 ⟨rfl,rfl⟩
 go_wp2_with fail
 have hrd:=znr (w.alloc (.cells #[.int .u64 0,.int .u64 0] 157)) [.int .u64 (q:Int)] 53
 refine (zqi _ [q] _ 1 _ rfl (by omega) (by simp only[World.size_alloc] at hrd ⊢;exact hrd) (by intro y hy;simp at hy;subst hy;omega)).mono ?_
 rintro e w1 ⟨rfl,hB1⟩
 rw[World.size_alloc,World.size_alloc] at hB1
 have hb1:=(((Below.refl _ _).alloc (Nat.le_refl _) (.cells #[.int .u64 0,.int .u64 0] 157)).alloc (by simp) (.cells #[.int .u64 (q:Int)] 53)).trans (hB1.mono (by omega))
 have bx1:=(BX.out.alloc (.cells #[.int .u64 (q:Int)] 53)).up hB1 (by omega)
 have BX1:=hid bx1
 have HB1:=hid hb1
 rw[HSM.out]
 obtain ⟨z,hz⟩:∃ z,zgi q=z:=⟨_,rfl⟩
 have HZ:=hid hz
 rw[hz] at HV ⊢
 clear hz bx1 hb1 hB1 hrd
 go_wp2_with ((with_reducible refine zbu 157 (.tmp 2) _ ?_);refine zai rfl _ _ _ rfl w.heap.size 157 #[.int .u64 0,.int .u64 0] #[.int .u64 (q:Int),.int .u64 (z:Int)] (by rfl) (by rfl) BX1.out rfl hi2 (by simp[Value.oneCell']) ?_;intro w3 hb3 ha3;have HB3:=hid hb3;have HA3:=hid ha3;clear hb3 ha3)
 exact bodyPost_ret (v:=.tuple #[.agg #[.int .u64 (q:Int),.int .u64 (z:Int)],.int .i64 0]) (zi9 Tryz.results89 _ HB3.out rfl rfl) rfl ⟨by rw[HZ.out,HV.out],HA3.out.below HB1.out (Nat.le_refl _)⟩
end Go.Proofs.YtpcajamacpbjcaaGreat
namespace Go.Proofs.YtpcajamacpbjcaaGreat
open Lib (hid)
open Go.RowKit
def zJf (w:List Nat) (i:Nat) (t:List Nat):List Nat:=(w.set (96+2 * i) (zgu t)).set (96+2 * i+1) (zgi (zgu t))
def zj9 (ts:List (List Nat)) (w:List Nat):Nat→List Nat
 | 0=>w
 | k+1=>zJf (zj9 ts w k) k (ts[k]?.getD [])
def zIe (w:List Nat) (a:Nat) (b:Bk):List Nat:=(w.set a (zcg b)).set (a+1) b.next
def zfm (bs:List Bk) (s:List Nat × Nat):Nat→List Nat × Nat
 | 0=>s
 | k+1=>(zIe (zfm bs s k).1 (zfm bs s k).2 (gk bs k),(zfm bs s k).2+(gk bs k).size.toNat)
def zc3 (n:Nat):Bk:=⟨0,(n:Int),2,0,false,0⟩
def zyh (n:Nat) (s:List Nat × Nat):List Nat:=if s.2<n then s.1.set s.2 (zcg (zc3 (n - s.2))) else s.1
def zf6 (ss:List Int) (w:List Nat):Nat→List Nat
 | 0=>w
 | k+1=>if 0<ss[k]?.getD 0 then (zf6 ss w k).set (112+k) (9223372041149743104+(ss[k]?.getD 0).toNat) else zf6 ss w k
def zCq (n:Nat) (ts:List (List Nat)) (bs:List Bk):List Nat × Nat:=zfm bs (zj9 ts (List.replicate n 0) ts.length,128) bs.length
def zmr (n:Nat) (ts:List (List Nat)) (bs:List Bk) (ss:List Int):List Nat:=zf6 ss (zyh n (zCq n ts bs)) ss.length
theorem zyi (n:Nat):(List.replicate n 0).flatMap zaj=List.replicate n (.int .u64 0):=by
 induction n with
 | zero=>rfl
 | succ n ih=>rw[List.replicate_succ,List.flatMap_cons,ih,List.replicate_succ];rfl
theorem zsh (K T S:Nat) (m:Bool) (a:Int) (x:Nat):zcg ⟨a,(S:Int),(K:Int),(T:Int),m,x⟩=K+znu m * 256+T * 512+S * 65536+zgi (K+znu m * 256+T * 512+S * 65536) % 4294967296 * 4294967296:=by
 unfold zcg zkl;simp only[Int.toNat_natCast]
structure Ty where
 A:Option Addr
 c:Nat
 l:List Nat
 deriving Inhabited
def Ty.cells (x:Ty):List Value:=[.slice x.A x.l.length x.c]
theorem Ty.len (x:Ty):x.cells.length=1:=rfl
def RdT (w:World) (B:Nat) (A:Option Addr) (ts:List Ty):Prop:=Rd w B A (ts.flatMap Ty.cells)∧∀ x ∈ ts,RdY w B x.A x.l∧x.l.length≤8∧zdk x.l=true
theorem RdT.at_ {w:World} {B:Nat} {A:Option Addr} {l:List Ty} (h:RdT w B A l) {k:Nat} (hk:k<l.length) :
  ∃ b off,A=some ⟨b,off,none⟩∧b<B∧w.cell? ⟨b,off+k,none⟩=some (.slice l[k].A l[k].l.length l[k].c)∧RdY w B l[k].A l[k].l∧l[k].l.length≤8∧zdk l[k].l=true:=by
 obtain ⟨b,off,e,hb,hc⟩:=Rd.at_flat Ty.len h.1 (by omega) hk
 have:=hc 0 (by omega)
 simp only[Nat.mul_one,Nat.add_zero] at this
 obtain ⟨h1,h2,h3⟩:=h.2 l[k] (List.getElem_mem hk)
 exact ⟨b,off,e,hb,this,h1,h2,h3⟩
theorem RdT.below {w w':World} {B:Nat} {A:Option Addr} {l:List Ty} (h:RdT w B A l) (hb:Below B w w'):RdT w' B A l:=⟨h.1.below hb,fun x hx=>⟨(h.2 x hx).1.below hb,(h.2 x hx).2⟩⟩
theorem RdT.more {w:World} {B B':Nat} {A:Option Addr} {l:List Ty} (h:RdT w B A l) (hB:B≤B'):RdT w B' A l:=⟨h.1.more hB,fun x hx=>⟨(h.2 x hx).1.more hB,(h.2 x hx).2⟩⟩
theorem RdT.nil_ {w:World} {B:Nat}:RdT w B none []:=⟨Rd.nil_,fun x h=>by cases h⟩
def zn5 (H n:Nat) (w wr:World) (cur:List Nat):Prop:=wr.ownsRow H 53 1 (.slice (some ⟨H,0,none⟩) n n) n (cur.flatMap zaj)∧Below H w wr
theorem zn5.len {H n:Nat} {w wr:World} {cur:List Nat} (h:zn5 H n w wr cur):cur.length=n:=by
 have:=h.1.1
 rw[zh1] at this;omega
theorem zn5.set_ {H n:Nat} {w wr:World} {cur:List Nat} (h:zn5 H n w wr cur) (j v:Nat):zn5 H n w (wr.setCell ⟨H,j,none⟩ (.int .u64 (v:Int))) (cur.set j v):=by
 refine ⟨?_,h.2.setCell (p:=⟨H,j,none⟩) (Nat.le_refl _) _⟩
 rw[zsn]
 exact (h.1.stored j (.int .u64 (v:Int))).1
theorem zn5.alloc {H n:Nat} {w wr:World} {cur:List Nat} (h:zn5 H n w wr cur) (o:Obj):zn5 H n w (wr.alloc o) cur:=⟨h.1.alloc o,h.2.alloc (Nat.le_of_lt (h.1.lt H rfl).2) o⟩
theorem zn5.drew {H n:Nat} {w wr:World} {cur:List Nat} (h:zn5 H n w wr cur):zn5 H n w wr.drew cur:=⟨h.1,h.2.drew⟩
theorem zn5.up {H n:Nat} {w wr w1:World} {cur:List Nat} (h:zn5 H n w wr cur) (hb:Below wr.heap.size wr w1):zn5 H n w w1 cur:=⟨zak h.1 hb (Nat.le_refl _),h.2.trans (hb.mono (Nat.le_of_lt (h.1.lt H rfl).2))⟩
theorem zn5.cell {H n:Nat} {w wr:World} {cur:List Nat} (h:zn5 H n w wr cur) {j:Nat} (hj:j<n):∃ u,wr.cell? ⟨H,j,none⟩=some u∧wr.frozen? ⟨H,j,none⟩=false:=
 ⟨_,(h.1.cellAt j (by omega)).trans (zq1 cur j (by rw[h.len];exact hj)),h.1.frozenAt j⟩
theorem zAi (v:Nat) (hv:v<4294967296):bits BinOp.or .u64 9223372041149743104 (v:Int)=((9223372041149743104+v:Nat):Int):=by
 have h:=u64_or_nat 9223372041149743104 v (by omega) (by omega)
 have e:9223372041149743104 ||| v=9223372041149743104+v:=by
  rw[Nat.or_comm,show (9223372041149743104:Nat)=2147483649 * 2 ^ 32 by decide,zi1 (i:=32) (by omega),Nat.add_comm]
 rw[e] at h
 exact h
set_option maxRecDepth 100000 in
set_option maxHeartbeats 8000000 in
theorem zsu (TA BA SA:Option Addr) (ts:List Ty) (bs:List Bk) (ss:List Int) (tc bc sc n H:Nat) (w:World) (hn:n≤2048) (h128:128≤n) (hT:RdT w H TA ts) (ht8:ts.length≤8) (hB0:RdB w H BA bs) (hS:RdI w H SA ss) (hs16:ss.length≤16) (hH:H≤w.heap.size) (hb2:bs.length≤2048)
  (hbs:∀ k,k<bs.length→(0≤(gk bs k).kind∧(gk bs k).kind<256)∧(0≤(gk bs k).typ∧(gk bs k).typ<128)∧(2≤(gk bs k).size∧(gk bs k).size<65536)∧(zfm bs (zj9 (ts.map Ty.l) (List.replicate n 0) ts.length,128) k).2+(gk bs k).size.toNat≤n)
  (hss:∀ k,k<ss.length→ss[k]?.getD 0<4294967296 ∧ -4294967296<ss[k]?.getD 0) :
  Calls Tryz.prog 47 #[.int .i64 (n:Int),.slice TA ts.length tc,.slice BA bs.length bc,.slice SA ss.length sc] w fun e w'=>zHe w (zmr n (ts.map Ty.l) bs ss) e w':=by
 have HT:=hid (hT.more hH)
 have HB0:=hid (hB0.more hH)
 have HS:=hid (hS.more hH)
 have HBS:=hid hbs
 have HSS:=hid hss
 clear hT hB0 hS hH hbs hss
 obtain ⟨i0,hi,hz0,hz1,hz2⟩:=info_parts zpd
 obtain ⟨W0,hmk,hown0,hg0⟩:=run_make_full (P:=Tryz.prog) w w.heap.size 22 53 i0 (.int .u64 0) 1 Tryz.underlying22 hi hz0 hz1 .i64 .i64 n (by rw[hz2];omega) (by unfold maxLen;omega) (Nat.le_refl _)
 have HOW:=hid (show zn5 w.heap.size n w W0 (List.replicate n 0) from ⟨by rw[zyi,←toList_madeCells_one];have:=hown0;rw[Nat.mul_one] at this;exact this,(Below.refl _ _).grown hg0 (Nat.le_refl _) (fun k hk=>by cases hk)⟩)
 clear hown0 hg0 hi hz0 hz1 hz2
 go_enter Tryz.func47,Tryz.ntmps47
 go_wp2_with fail
 clear hmk
 go_loopw [10] (fun i wr=>∃ k:Nat,k≤ts.length∧i=.int .i64 k∧zn5 w.heap.size n w wr (zj9 (ts.map Ty.l) (List.replicate n 0) k)) (fun i _=>ts.length - (intOf i).toNat)
 case atStart=>exact ⟨0,Nat.zero_le _,rfl,HOW.out⟩
 case round =>
  obtain ⟨k,hk,rfl,hO⟩:=hrel
  by_cases hlt:k<ts.length
  · obtain ⟨b,off,rfl,hb,h0,hy,hy8,hyk⟩:=RdT.at_ (HT.out.below hO.2) hlt
    have HSP:Hid (zj9 (ts.map Ty.l) (List.replicate n 0) (k+1)=zJf (zj9 (ts.map Ty.l) (List.replicate n 0) k) k ts[k].l):=hid (by simp[zj9,hlt])
    have HC:=hid (zyk ts[k].A ts[k].l ts[k].c ts[k].l.length w.heap.size wr rfl hy8 hyk hy hO.2.size)
    obtain ⟨x,hx⟩:∃ x,ts[k]=x:=⟨_,rfl⟩
    rw[hx] at h0 HSP HC
    obtain ⟨xA,xc,xl⟩:=x
    dsimp only at h0 HSP HC
    obtain ⟨p,hp⟩:∃ p,zgu xl=p:=⟨_,rfl⟩
    obtain ⟨q,hq⟩:∃ q,zgi p=q:=⟨_,rfl⟩
    unfold zJf at HSP
    unfold zB2 at HC
    rw[hp,hq] at HC HSP
    have HO:=hid hO
    have hk1:(k:Int)<(ts.length:Int):=by omega
    have hk0:(0:Int)≤(k:Int):=by omega
    have w1:IntKind.i64.wrap (2 * (k:Int))=2 * (k:Int):=IntWalk.i64_in _ (by omega)
    have w2:IntKind.i64.wrap (96+2 * (k:Int))=96+2 * (k:Int):=IntWalk.i64_in _ (by omega)
    have w3:IntKind.i64.wrap (96+2 * (k:Int)+1)=96+2 * (k:Int)+1:=IntWalk.i64_in _ (by omega)
    have i1:(0:Int)≤96+2 * (k:Int):=by omega
    have i2:(96:Int)+2 * (k:Int)<(n:Int):=by omega
    have i3:(0:Int)≤96+2 * (k:Int)+1:=by omega
    have i4:(96:Int)+2 * (k:Int)+1<(n:Int):=by omega
    have n1:((96:Int)+2 * (k:Int)).toNat=96+2 * k:=by omega
    have n2:((96:Int)+2 * (k:Int)+1).toNat=96+2 * k+1:=by omega
    clear hx hp hq hO hy hyk
    go_wp2_with fail
    refine HC.out.mono ?_
    rintro e w1' ⟨rfl,hB1⟩
    have ho1:=(HO.out.up hB1).alloc (.cells #[.int .u64 (p:Int),.int .u64 (q:Int)] 157)
    have bx:=Bx.new w1' 157 #[.int .u64 (p:Int),.int .u64 (q:Int)]
    go_wp2_with fail
    obtain ⟨W,hW⟩:∃ W,w1'.alloc (.cells #[.int .u64 (p:Int),.int .u64 (q:Int)] 157)=W:=⟨_,rfl⟩
    rw[hW] at ho1 bx ⊢
    obtain ⟨x0,x1,-,-,hgg⟩:=bx.c2
    obtain ⟨u0,c0,f0⟩:=ho1.cell (j:=96+2 * k) (by omega)
    obtain ⟨u1,c1,f1⟩:=ho1.cell (j:=96+2 * k+1) (by omega)
    have hne:w.heap.size≠w1'.heap.size:=by have:=HO.out.2.size;have:=hB1.size;have:=HO.out.1.lt w.heap.size rfl;omega
    have HO1:=hid ho1
    clear hW ho1 bx hB1
    first
     | (go_region_held3 (fun X:World=>X.cell? ⟨w1'.heap.size,0,none⟩=some (.int .u64 (p:Int))∧X.cell? ⟨w1'.heap.size,1,none⟩=some (.int .u64 (q:Int))) (go_keep) (fail))
     | fail
    all_goals
     go_wp2_with fail
     go_roundw
     case rel=>exact ⟨k+1,by omega,by go_num,by rw[HSP.out];exact ((HO1.out.drew).set_ _ _).set_ _ _⟩
     case measure=>simp[intOf];omega
  · obtain rfl:k=ts.length:=by omega
    obtain ⟨s0,hs0⟩:∃ s0,zj9 (ts.map Ty.l) (List.replicate n 0) ts.length=s0:=⟨_,rfl⟩
    have HS0:=hid hs0
    rw[hs0] at hO HBS
    have HO:=hid hO
    obtain ⟨wa,rfl⟩:∃ wa:World,wa=wr:=⟨_,rfl⟩
    clear hs0 hO HOW
    go_wp2_with fail
    go_loopw [13,14] (fun p i wr=>∃ k:Nat,k≤bs.length∧i=.int .i64 k∧p=.int .i64 ((zfm bs (s0,128) k).2:Nat)∧zn5 w.heap.size n w wr (zfm bs (s0,128) k).1) (fun _ i _=>bs.length - (intOf i).toNat)
    case atStart=>exact ⟨0,Nat.zero_le _,rfl,rfl,HO.out⟩
    case round =>
     obtain ⟨k,hk,rfl,rfl,hO⟩:=hrel
     have HSP:Hid (zfm bs (s0,128) (k+1)=(zIe (zfm bs (s0,128) k).1 (zfm bs (s0,128) k).2 (gk bs k),(zfm bs (s0,128) k).2+(gk bs k).size.toNat)):=hid rfl
     by_cases hlt:k<bs.length
     · obtain ⟨b,off,rfl,hb,q0,q1,q2,q3,q4,q5⟩:=RdB.at_ (Rd.below HB0.out hO.2) hlt
       obtain ⟨⟨e1,e2⟩,⟨e3,e4⟩,⟨e5,e6⟩,e7⟩:=HBS.out k hlt
       rw[←zbt bs k hlt] at q0 q1 q2 q3 q4 q5
       obtain ⟨x,hx⟩:∃ x,gk bs k=x:=⟨_,rfl⟩
       obtain ⟨s1,hs1⟩:∃ s1,zfm bs (s0,128) k=s1:=⟨_,rfl⟩
       rw[hx] at q0 q1 q2 q3 q4 q5 HSP e1 e2 e3 e4 e5 e6 e7
       rw[hs1] at HSP hO e7 ⊢
       obtain ⟨xa,xs,xk,xt,xm,xn⟩:=x
       obtain ⟨cur,a⟩:=s1
       dsimp only at q0 q1 q2 q3 q4 q5 e1 e2 e3 e4 e5 e6 e7 hO HSP ⊢
       obtain ⟨K,rfl⟩:=Int.eq_ofNat_of_zero_le e1
       obtain ⟨T,rfl⟩:=Int.eq_ofNat_of_zero_le e3
       obtain ⟨S,rfl⟩:=Int.eq_ofNat_of_zero_le (show 0≤xs by omega)
       simp only[Int.toNat_natCast] at e7 HSP
       unfold zIe at HSP
       rw[zsh] at HSP
       have HWD:=hid (fun W=>zm9 K T S xm W (by omega) (by omega) (by omega))
       obtain ⟨h,hh⟩:∃ h,K+znu xm * 256+T * 512+S * 65536+zgi (K+znu xm * 256+T * 512+S * 65536) % 4294967296 * 4294967296=h:=⟨_,rfl⟩
       rw[hh] at HSP HWD
       have HO1:=hid hO
       have hk1:(k:Int)<(bs.length:Int):=by omega
       have hk0:(0:Int)≤(k:Int):=by omega
       have ha0:(0:Int)≤(a:Int):=by omega
       have ha1:(a:Int)<(n:Int):=by omega
       have ha2:(a:Int)+1<(n:Int):=by omega
       have ha3:(0:Int)≤(a:Int)+1:=by omega
       have hwr:IntKind.i64.wrap ((a:Int)+1)=(a:Int)+1:=IntWalk.i64_in _ (by omega)
       have htn:((a:Int)+1).toNat=a+1:=by omega
       have hle:(a:Int)+(S:Int)≤(n:Int):=by omega
       have hS0:(0:Int)≤(S:Int):=by omega
       have hbh:b<w.heap.size:=hb
       have hbw:b<wr.heap.size:=by have:=hO.2.size;omega
       have hbn:b≠w.heap.size:=by omega
       have hbn2:w.heap.size≠b:=by omega
       clear hx hs1 hh hO e1 e2 e3 e4 e5 e6
       go_wp2_with fail
       first
         | (go_region_held3 (fun X:World=>X.cell? ⟨b,off+k * 6+1,none⟩=some (.int .i64 (S:Int))∧X.cell? ⟨b,off+k * 6+2,none⟩=some (.int .i64 (K:Int))∧X.cell? ⟨b,off+k * 6+3,none⟩=some (.int .i64 (T:Int))∧X.cell? ⟨b,off+k * 6+4,none⟩=some (.bool xm)∧X.cell? ⟨b,off+k * 6+5,none⟩=some (.int .u64 (xn:Int))) (go_keep)
            (first | (go_at_call 90;refine (HWD.out _).mono ?_;rintro e w5 ⟨rfl,hB5⟩;have m1:=(hB5.cell (p:=⟨b,off+k * 6+1,none⟩) hbw).trans q1;have m2:=(hB5.cell (p:=⟨b,off+k * 6+2,none⟩) hbw).trans q2;have m3:=(hB5.cell (p:=⟨b,off+k * 6+3,none⟩) hbw).trans q3;have m4:=(hB5.cell (p:=⟨b,off+k * 6+4,none⟩) hbw).trans q4;have m5:=(hB5.cell (p:=⟨b,off+k * 6+5,none⟩) hbw).trans q5;have ho5:=HO1.out.drew.up hB5;obtain ⟨u0,c0,f0⟩:=ho5.cell (j:=a) (by omega);obtain ⟨u1,c1,f1⟩:=ho5.cell (j:=a+1) (by omega);have HO5:=hid ho5;clear hB5 ho5)))
         | fail
       all_goals
         go_wp2_with fail
         go_roundw
         case rel=>exact ⟨k+1,by omega,by go_num,by rw[HSP.out];simp,by rw[HSP.out];exact ((HO5.out).set_ _ _).set_ _ _⟩
         case measure=>simp[intOf];omega
     · obtain rfl:k=bs.length:=by omega
       clear HSP HBS
       have HBD:Hid (zCq n (ts.map Ty.l) bs=zfm bs (s0,128) bs.length):=hid (by unfold zCq;rw[←HS0.out,List.length_map])
       have HBL:Hid (zmr n (ts.map Ty.l) bs ss=zf6 ss (zyh n (zfm bs (s0,128) bs.length)) ss.length):=hid (by unfold zmr;rw[HBD.out])
       obtain ⟨s1,hs1⟩:∃ s1,zfm bs (s0,128) bs.length=s1:=⟨_,rfl⟩
       rw[hs1] at hO HBL ⊢
       obtain ⟨cur,a⟩:=s1
       dsimp only at hO ⊢
       obtain ⟨wa,rfl⟩:∃ wa:World,wa=wr:=⟨_,rfl⟩
       have ha0:(0:Int)≤(a:Int):=by omega
       by_cases han:a<n
       · have HBL2:Hid (zyh n (cur,a)=cur.set a (zcg (zc3 (n - a)))):=hid (by unfold zyh;rw[if_pos han])
         rw[HBL2.out] at HBL
         have hfr:zcg (zc3 (n - a))=2+znu false * 256+0 * 512+(n - a) * 65536+zgi (2+znu false * 256+0 * 512+(n - a) * 65536) % 4294967296 * 4294967296:=zsh 2 0 (n - a) false 0 0
         have HWD:=hid (fun W=>zm9 2 0 (n - a) false W (by omega) (by omega) (by omega))
         rw[←hfr] at HWD
         obtain ⟨h,hh⟩:∃ h,zcg (zc3 (n - a))=h:=⟨_,rfl⟩
         rw[hh] at HWD HBL
         rw[show (((n - a:Nat)):Int)=(n:Int) - (a:Int) by omega] at HWD
         have HO1:=hid hO
         have ha1:(a:Int)<(n:Int):=by omega
         clear hs1 hfr hh hO HBL2
         go_wp2_with fail
         refine (HWD.out _).mono ?_
         rintro e w5 ⟨rfl,hB5⟩
         have ho5:=HO1.out.up hB5
         obtain ⟨u0,c0,f0⟩:=ho5.cell (j:=a) (by omega)
         have HO3:=hid (ho5.set_ a h)
         clear hB5 ho5
         go_wp2_with fail
         obtain ⟨c3,hc3⟩:∃ c3,cur.set a h=c3:=⟨_,rfl⟩
         rw[hc3] at HO3 HBL
         clear hc3 c0 f0
         go_loopw [15] (fun i wr=>∃ k:Nat,k≤ss.length∧i=.int .i64 k∧zn5 w.heap.size n w wr (zf6 ss c3 k)) (fun i _=>ss.length - (intOf i).toNat)
         case atStart=>exact ⟨0,Nat.zero_le _,rfl,HO3.out⟩
         case round =>
          obtain ⟨k,hk,rfl,hO⟩:=hrel
          have HSP:Hid (zf6 ss c3 (k+1)=if 0<ss[k]?.getD 0 then (zf6 ss c3 k).set (112+k) (9223372041149743104+(ss[k]?.getD 0).toNat) else zf6 ss c3 k):=hid rfl
          by_cases hlt:k<ss.length
          · obtain ⟨b,off,rfl,hb,q0⟩:=RdI.at_ (Rd.below HS.out hO.2) hlt
            obtain ⟨g1,g2⟩:=HSS.out k hlt
            have hget:ss[k]?.getD 0=ss[k]:=by simp[hlt]
            rw[hget] at HSP g1 g2
            obtain ⟨x,hx⟩:∃ x,ss[k]=x:=⟨_,rfl⟩
            rw[hx] at q0 HSP g1 g2
            obtain ⟨c4,hc4⟩:∃ c4,zf6 ss c3 k=c4:=⟨_,rfl⟩
            rw[hc4] at HSP hO
            have HO4:=hid hO
            obtain ⟨u0,c0,f0⟩:=hO.cell (j:=112+k) (by omega)
            have hk1:(k:Int)<(ss.length:Int):=by omega
            have hk0:(0:Int)≤(k:Int):=by omega
            have hk16:(k:Int)<16:=by omega
            have i1:(0:Int)≤112+(k:Int):=by omega
            have i2:(112:Int)+(k:Int)<(n:Int):=by omega
            have n1:((112:Int)+(k:Int)).toNat=112+k:=by omega
            clear hx hget hc4 hO
            by_cases hx0:0<x
            · obtain ⟨v,rfl⟩:=Int.eq_ofNat_of_zero_le (show 0≤x by omega)
              have hor:=zAi v (by omega)
              rw[if_pos hx0,Int.toNat_natCast] at HSP
              obtain ⟨y,hy⟩:∃ y,9223372041149743104+v=y:=⟨_,rfl⟩
              rw[hy] at hor HSP
              have HOR:=hid hor
              have hwv:IntKind.u64.wrap (v:Int)=(v:Int):=IntWalk.u64_in _ (by omega)
              clear hy hor g1 g2
              go_wp2_with fail
              go_roundw
              case rel=>exact ⟨k+1,by omega,by go_num,by rw[HSP.out];have h5:=HO4.out.set_ (112+k) y;rw[←HOR.out] at h5;exact h5⟩
              case measure=>simp[intOf];omega
            · rw[if_neg hx0] at HSP
              go_wp2_with fail
              go_roundw
              case rel=>exact ⟨k+1,by omega,by go_num,by rw[HSP.out];exact HO4.out⟩
              case measure=>simp[intOf];omega
          · obtain rfl:k=ss.length:=by omega
            have HO4:=hid hO
            clear hO HSP
            go_wp2_with fail
            go_ret
            rw[←HBL.out] at HO4
            have hl:=HO4.out.len
            exact ⟨w.heap.size,n,by rw[hl];rfl,by rw[hl];exact HO4.out.1,HO4.out.2⟩
       · have HBL2:Hid (zyh n (cur,a)=cur):=hid (by unfold zyh;rw[if_neg han])
         rw[HBL2.out] at HBL
         have HO3:=hid hO
         clear hs1 hO HBL2
         go_wp2_with fail
         go_loopw [15] (fun i wr=>∃ k:Nat,k≤ss.length∧i=.int .i64 k∧zn5 w.heap.size n w wr (zf6 ss cur k)) (fun i _=>ss.length - (intOf i).toNat)
         case atStart=>exact ⟨0,Nat.zero_le _,rfl,HO3.out⟩
         case round =>
          obtain ⟨k,hk,rfl,hO⟩:=hrel
          have HSP:Hid (zf6 ss cur (k+1)=if 0<ss[k]?.getD 0 then (zf6 ss cur k).set (112+k) (9223372041149743104+(ss[k]?.getD 0).toNat) else zf6 ss cur k):=hid rfl
          by_cases hlt:k<ss.length
          · obtain ⟨b,off,rfl,hb,q0⟩:=RdI.at_ (Rd.below HS.out hO.2) hlt
            obtain ⟨g1,g2⟩:=HSS.out k hlt
            have hget:ss[k]?.getD 0=ss[k]:=by simp[hlt]
            rw[hget] at HSP g1 g2
            obtain ⟨x,hx⟩:∃ x,ss[k]=x:=⟨_,rfl⟩
            rw[hx] at q0 HSP g1 g2
            obtain ⟨c4,hc4⟩:∃ c4,zf6 ss cur k=c4:=⟨_,rfl⟩
            rw[hc4] at HSP hO
            have HO4:=hid hO
            obtain ⟨u0,c0,f0⟩:=hO.cell (j:=112+k) (by omega)
            have hk1:(k:Int)<(ss.length:Int):=by omega
            have hk0:(0:Int)≤(k:Int):=by omega
            have hk16:(k:Int)<16:=by omega
            have i1:(0:Int)≤112+(k:Int):=by omega
            have i2:(112:Int)+(k:Int)<(n:Int):=by omega
            have n1:((112:Int)+(k:Int)).toNat=112+k:=by omega
            clear hx hget hc4 hO
            by_cases hx0:0<x
            · obtain ⟨v,rfl⟩:=Int.eq_ofNat_of_zero_le (show 0≤x by omega)
              have hor:=zAi v (by omega)
              rw[if_pos hx0,Int.toNat_natCast] at HSP
              obtain ⟨y,hy⟩:∃ y,9223372041149743104+v=y:=⟨_,rfl⟩
              rw[hy] at hor HSP
              have HOR:=hid hor
              have hwv:IntKind.u64.wrap (v:Int)=(v:Int):=IntWalk.u64_in _ (by omega)
              clear hy hor g1 g2
              go_wp2_with fail
              go_roundw
              case rel=>exact ⟨k+1,by omega,by go_num,by rw[HSP.out];have h5:=HO4.out.set_ (112+k) y;rw[←HOR.out] at h5;exact h5⟩
              case measure=>simp[intOf];omega
            · rw[if_neg hx0] at HSP
              go_wp2_with fail
              go_roundw
              case rel=>exact ⟨k+1,by omega,by go_num,by rw[HSP.out];exact HO4.out⟩
              case measure=>simp[intOf];omega
          · obtain rfl:k=ss.length:=by omega
            have HO4:=hid hO
            clear hO HSP
            go_wp2_with fail
            go_ret
            rw[←HBL.out] at HO4
            have hl:=HO4.out.len
            exact ⟨w.heap.size,n,by rw[hl];rfl,by rw[hl];exact HO4.out.1,HO4.out.2⟩
end Go.Proofs.YtpcajamacpbjcaaGreat
namespace Go.Proofs.YtpcajamacpbjcaaGreat
open Lib (hid)
open Go.RowKit
theorem Rd.of_bx {w:World} {g B:Nat} {t:TypeId} {cs:Array Value} (h:Bx w g t cs) (hg:g<B):Rd w B (some ⟨g,0,none⟩) cs.toList:=fun _ =>
 ⟨g,0,rfl,hg,fun j hj=>by
  rw[Nat.zero_add,h.cell j]
  simp⟩
def obj4 (m:Bool):Bk:=⟨0,4,1,0,m,0⟩
def fits (n:Nat) (ts:List (List Nat)) (bs:List Bk) (k:Nat):Prop:=(0≤(gk bs k).kind∧(gk bs k).kind<256)∧(0≤(gk bs k).typ∧(gk bs k).typ<128)∧(2≤(gk bs k).size∧(gk bs k).size<65536)∧(zfm bs (zj9 ts (List.replicate n 0) ts.length,128) k).2+(gk bs k).size.toNat≤n
instance (n:Nat) (ts:List (List Nat)) (bs:List Bk) (k:Nat):Decidable (fits n ts bs k):=by unfold fits;infer_instance
end Go.Proofs.YtpcajamacpbjcaaGreat
