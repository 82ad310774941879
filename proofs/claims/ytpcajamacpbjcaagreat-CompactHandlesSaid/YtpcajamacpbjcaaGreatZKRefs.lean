/- Texts laid together: Ref01 Ref05 Ref14W. -/
import Derived.Test.YtpcajamacpbjcaaGreatZKHead
namespace Go.Proofs.YtpcajamacpbjcaaGreat
open Lib (hid)
open Go.RowKit
def zbq (w f n:Nat):Nat:=w / 2 ^ f % 2 ^ n
def zhi (w f n v:Nat):Nat:=w - zbq w f n * 2 ^ f+v % 2 ^ n * 2 ^ f
theorem zlo (w f n:Nat):zbq w f (n+1)=zbq w f n+w / 2 ^ (f+n) % 2 * 2 ^ n:=by
 unfold zbq
 rw[Nat.pow_succ,Nat.mod_mul,Nat.div_div_eq_div_mul,←Nat.pow_add,Nat.mul_comm (2 ^ n)]
theorem zym (w f n:Nat):zbq w f n<2 ^ n:=Nat.mod_lt _ (Nat.pow_pos (by omega))
theorem zou (w f n:Nat):zbq w f n * 2 ^ f≤w:=by
 have h1:zbq w f n≤w / 2 ^ f:=Nat.mod_le _ _
 exact Nat.le_trans (Nat.mul_le_mul_right _ h1) (Nat.div_mul_le_self _ _)
theorem zw8 (w f v:Nat):zhi w f 0 v=w:=by simp[zhi,zbq,Nat.mod_one]
theorem zrb (w f n v:Nat):zhi w f n v / 2 ^ (f+n)=w / 2 ^ (f+n):=by
 have hp:0<2 ^ (f+n):=Nat.pow_pos (by omega)
 have h1:w=w / 2 ^ (f+n) * 2 ^ (f+n)+(zbq w f n * 2 ^ f+w % 2 ^ f):=by
  have e1:=Nat.div_add_mod w (2 ^ f)
  have e2:=Nat.div_add_mod (w / 2 ^ f) (2 ^ n)
  rw[Nat.div_div_eq_div_mul,←Nat.pow_add] at e2
  unfold zbq
  have e3:2 ^ f * (w / 2 ^ f)=2 ^ f * (2 ^ n * (w / 2 ^ (f+n))+w / 2 ^ f % 2 ^ n):=by rw[e2]
  rw[Nat.mul_add,←Nat.mul_assoc,←Nat.pow_add] at e3
  rw[Nat.mul_comm (w / 2 ^ (f+n)),Nat.mul_comm (w / 2 ^ f % 2 ^ n)]
  omega
 have h2:zhi w f n v=w / 2 ^ (f+n) * 2 ^ (f+n)+(v % 2 ^ n * 2 ^ f+w % 2 ^ f):=by
  unfold zhi;omega
 have h3:v % 2 ^ n * 2 ^ f+w % 2 ^ f<2 ^ (f+n):=by
  have a1:v % 2 ^ n+1≤2 ^ n:=Nat.mod_lt _ (Nat.pow_pos (by omega))
  have a2:w % 2 ^ f<2 ^ f:=Nat.mod_lt _ (Nat.pow_pos (by omega))
  have a3:(v % 2 ^ n+1) * 2 ^ f≤2 ^ n * 2 ^ f:=Nat.mul_le_mul_right _ a1
  rw[Nat.pow_add,Nat.mul_comm (2 ^ f)]
  rw[Nat.add_mul] at a3
  omega
 rw[h2,Nat.mul_comm,Nat.mul_add_div hp,Nat.div_eq_of_lt h3,Nat.add_zero]
theorem zxf (w f n v:Nat):zhi w f (n+1) v=zhi w f n v - zhi w f n v / 2 ^ (f+n) % 2 * 2 ^ (f+n)+v / 2 ^ n % 2 * 2 ^ (f+n)∧zhi w f n v / 2 ^ (f+n) % 2 * 2 ^ (f+n)≤zhi w f n v:=by
 have hle:zhi w f n v / 2 ^ (f+n) % 2 * 2 ^ (f+n)≤zhi w f n v:=Nat.le_trans (Nat.mul_le_mul_right _ (Nat.mod_le _ _)) (Nat.div_mul_le_self _ _)
 refine ⟨?_,hle⟩
 rw[zrb] at hle ⊢
 have e1:=zlo w f n
 have e2:v % 2 ^ (n+1)=v % 2 ^ n+v / 2 ^ n % 2 * 2 ^ n:=by rw[Nat.pow_succ,Nat.mod_mul,Nat.mul_comm (2 ^ n)]
 have e3:=zou w f (n+1)
 have e4:=zou w f n
 unfold zhi at hle ⊢
 rw[e1,Nat.add_mul,Nat.mul_assoc (w / 2 ^ (f+n) % 2),←Nat.pow_add,Nat.add_comm n f] at e3 ⊢
 rw[e2,Nat.add_mul,Nat.mul_assoc (v / 2 ^ n % 2),←Nat.pow_add,Nat.add_comm n f]
 omega
theorem zvm {w f n v:Nat} (hw:w<18446744073709551616) (h:f+n≤64):zhi w f n v<18446744073709551616:=by
 have hp:0<2 ^ (f+n):=Nat.pow_pos (by omega)
 have e:18446744073709551616=2 ^ (64 - (f+n)) * 2 ^ (f+n):=by rw[←Nat.pow_add,show 64 - (f+n)+(f+n)=64 by omega]
 rw[e,←Nat.div_lt_iff_lt_mul hp] at hw ⊢
 rw[zrb];exact hw
theorem zro {w f n:Nat} (h:f+n≤64):zbq w f n<18446744073709551616:=
 Nat.lt_of_lt_of_le (zym w f n) (show 2 ^ n≤2 ^ 64 from Nat.pow_le_pow_right (by omega) (by omega))
section
set_option maxRecDepth 100000
set_option maxHeartbeats 1000000
theorem zJe (x i:Nat) (w:World) (hx:x<18446744073709551616) (hi:i≤64) :
  Calls Tryz.prog 200 #[.int .u64 (x:Int),.int .i64 (i:Int)] w fun e w'=>e=.returned (.int .u64 ((x / 2 ^ i % 2:Nat):Int))∧w'=w:=by
 have HX:=hid hx
 clear hx
 go_enter Tryz.func200,Tryz.ntmps200
 go_wp2_with fail
 go_loopw [0,5] (fun v k wr=>∃ j:Nat,j≤i∧k=.int .i64 j∧v=.int .u64 ((x / 2 ^ j:Nat):Int)∧wr=w) (fun _ k _=>i - (intOf k).toNat)
 case atStart=>exact ⟨0,Nat.zero_le _,rfl,by simp,rfl⟩
 case round =>
  obtain ⟨j,hj,rfl,rfl,rfl⟩:=hrel
  obtain ⟨y,hy⟩:∃ y,x / 2 ^ j=y:=⟨_,rfl⟩
  rw[hy]
  have hy0:(0:Int)≤(y:Int):=by omega
  have HY:=hid hy
  have HYB:=hid (show y<18446744073709551616 by rw[←hy];exact Nat.lt_of_le_of_lt (Nat.div_le_self _ _) HX.out)
  clear hy
  by_cases hlt:j<i
  · have ik1:(j:Int)<(i:Int):=by omega
    have hy1:(y:Int) / 2<18446744073709551616:=by have:=HYB.out;omega
    have hy2:(0:Int)≤(y:Int) / 2:=by omega
    have HN:Hid (x / 2 ^ (j+1)=y / 2):=hid (by rw[←HY.out,Nat.pow_succ,Nat.div_div_eq_div_mul])
    go_wp2_with fail
    go_roundw
    case rel=>exact ⟨j+1,by omega,by go_num,by rw[HN.out];go_num,trivial⟩
    case measure=>simp[intOf];omega
  · obtain rfl:j=i:=by omega
    go_wp2_with fail
    go_ret
    rw[HY.out]
    exact ⟨by go_num,rfl⟩
theorem zzz (i:Nat) (w:World) (hi:i<64) :
  Calls Tryz.prog 201 #[.int .i64 (i:Int)] w fun e w'=>e=.returned (.int .u64 ((2 ^ i:Nat):Int))∧w'=w:=by
 go_enter Tryz.func201,Tryz.ntmps201
 go_wp2_with fail
 go_loopw [3,4] (fun v k wr=>∃ j:Nat,j≤i∧k=.int .i64 j∧v=.int .u64 ((2 ^ j:Nat):Int)∧wr=w) (fun _ k _=>i - (intOf k).toNat)
 case atStart=>exact ⟨0,Nat.zero_le _,rfl,rfl,rfl⟩
 case round =>
  obtain ⟨j,hj,rfl,rfl,rfl⟩:=hrel
  obtain ⟨y,hy⟩:∃ y,2 ^ j=y:=⟨_,rfl⟩
  rw[hy]
  have hy0:(0:Int)≤(y:Int):=by omega
  have HY:=hid hy
  by_cases hlt:j<i
  · have ik1:(j:Int)<(i:Int):=by omega
    have hy1:(y:Int) * 2<18446744073709551616:=by
     have h1:2 ^ (j+1)≤2 ^ 63:=Nat.pow_le_pow_right (by omega) (by omega)
     rw[Nat.pow_succ,hy] at h1
     omega
    have HN:Hid (2 ^ (j+1)=y * 2):=hid (by rw[←HY.out,Nat.pow_succ])
    clear hy
    go_wp2_with fail
    go_roundw
    case rel=>exact ⟨j+1,by omega,by go_num,by rw[HN.out];go_num,trivial⟩
    case measure=>simp[intOf];omega
  · obtain rfl:j=i:=by omega
    clear hy
    go_wp2_with fail
    go_ret
    rw[HY.out]
    exact ⟨by go_num,rfl⟩
theorem zhy (x f n:Nat) (w:World) (hx:x<18446744073709551616) (hi:f+n≤64) :
  Calls Tryz.prog 202 #[.int .u64 (x:Int),.int .i64 (f:Int),.int .i64 (n:Int)] w fun e w'=>e=.returned (.int .u64 ((zbq x f n:Nat):Int))∧w'=w:=by
 have HX:=hid hx
 clear hx
 go_enter Tryz.func202,Tryz.ntmps202
 go_wp2_with fail
 go_loopw [7,8] (fun v k wr=>∃ j:Nat,j≤n∧k=.int .i64 j∧v=.int .u64 ((zbq x f j:Nat):Int)∧wr=w) (fun _ k _=>n - (intOf k).toNat)
 case atStart=>exact ⟨0,Nat.zero_le _,rfl,by simp[zbq,Nat.mod_one],rfl⟩
 case round =>
  obtain ⟨j,hj,rfl,rfl,rfl⟩:=hrel
  obtain ⟨y,hy⟩:∃ y,zbq x f j=y:=⟨_,rfl⟩
  rw[hy]
  have hy0:(0:Int)≤(y:Int):=by omega
  by_cases hlt:j<n
  · have ik1:(j:Int)<(n:Int):=by omega
    have h1:=zJe x (f+j) wr HX.out (by omega)
    have h2:=zzz j wr (by omega)
    have h3:=zlo x f j
    have h4:=zro (w:=x) (f:=f) (n:=j+1) (by omega)
    obtain ⟨b,hb⟩:∃ b,x / 2 ^ (f+j) % 2=b:=⟨_,rfl⟩
    obtain ⟨p,hp⟩:∃ p,2 ^ j=p:=⟨_,rfl⟩
    rw[hb,Int.natCast_add] at h1
    rw[hp] at h2
    rw[hy,hb,hp] at h3
    rw[h3] at h4
    obtain ⟨q,hq⟩:∃ q,b * p=q:=⟨_,rfl⟩
    rw[hq] at h3 h4
    have hm:(b:Int) * (p:Int)=(q:Int):=by rw[←hq,Int.natCast_mul]
    have hm0:(0:Int)≤(b:Int) * (p:Int):=by omega
    have hm1:(b:Int) * (p:Int)<18446744073709551616:=by omega
    have hs0:(0:Int)≤(y:Int)+(b:Int) * (p:Int):=by omega
    have hs1:(y:Int)+(b:Int) * (p:Int)<18446744073709551616:=by omega
    have HM:=hid hm
    have H1:=hid h1
    have H2:=hid h2
    have H3:=hid h3
    clear hb hp hq hy h1 h2 h3 h4 hm
    go_wp2_with fail
    refine H1.out.mono ?_
    rintro e w1 ⟨rfl,rfl⟩
    go_wp2_with fail
    refine H2.out.mono ?_
    rintro e w2 ⟨rfl,rfl⟩
    go_wp2_with fail
    go_roundw
    case rel=>exact ⟨j+1,by omega,by go_num,by rw[H3.out,HM.out];go_num,trivial⟩
    case measure=>simp[intOf];omega
  · obtain rfl:j=n:=by omega
    have HY:=hid hy
    clear hy
    go_wp2_with fail
    go_ret
    rw[HY.out]
    exact ⟨by go_num,rfl⟩
end
set_option maxRecDepth 100000 in
set_option maxHeartbeats 1600000 in
theorem zr4 (x f n v:Nat) (w:World) (hx:x<18446744073709551616) (hv:v<18446744073709551616) (hi:f+n≤64) :
  Calls Tryz.prog 139 #[.int .u64 (x:Int),.int .i64 (f:Int),.int .i64 (n:Int),.int .u64 (v:Int)] w fun e w'=>e=.returned (.int .u64 ((zhi x f n v:Nat):Int))∧w'=w:=by
 have HX:=hid hx
 have HV:=hid hv
 clear hx hv
 go_enter Tryz.func139,Tryz.ntmps139
 go_wp2_with fail
 go_loopw [0,9] (fun u k wr=>∃ j:Nat,j≤n∧k=.int .i64 j∧u=.int .u64 ((zhi x f j v:Nat):Int)∧wr=w) (fun _ k _=>n - (intOf k).toNat)
 case atStart=>exact ⟨0,Nat.zero_le _,rfl,by rw[zw8],rfl⟩
 case round =>
  obtain ⟨j,hj,rfl,rfl,rfl⟩:=hrel
  obtain ⟨y,hy⟩:∃ y,zhi x f j v=y:=⟨_,rfl⟩
  rw[hy]
  have hy0:(0:Int)≤(y:Int):=by omega
  by_cases hlt:j<n
  · have ik1:(j:Int)<(n:Int):=by omega
    have hyb:=zvm (v:=v) HX.out (show f+j≤64 by omega)
    rw[hy] at hyb
    have h1:=zJe y (f+j) wr hyb (by omega)
    have h2:=zzz (f+j) wr (by omega)
    have h5:=zJe v j wr HV.out (by omega)
    obtain ⟨h3,h3'⟩:=zxf x f j v
    have h4:=zvm (v:=v) HX.out (show f+(j+1)≤64 by omega)
    rw[hy] at h3 h3'
    rw[h3] at h4
    obtain ⟨b,hb⟩:∃ b,y / 2 ^ (f+j) % 2=b:=⟨_,rfl⟩
    obtain ⟨p,hp⟩:∃ p,2 ^ (f+j)=p:=⟨_,rfl⟩
    obtain ⟨c,hc⟩:∃ c,v / 2 ^ j % 2=c:=⟨_,rfl⟩
    rw[hb,Int.natCast_add] at h1
    rw[hp,Int.natCast_add] at h2
    rw[hc] at h5
    rw[hb,hp,hc] at h3 h4
    rw[hb,hp] at h3'
    obtain ⟨q,hq⟩:∃ q,b * p=q:=⟨_,rfl⟩
    obtain ⟨r,hr⟩:∃ r,c * p=r:=⟨_,rfl⟩
    rw[hq,hr] at h3 h4
    rw[hq] at h3'
    have hm:(b:Int) * (p:Int)=(q:Int):=by rw[←hq,Int.natCast_mul]
    have hn:(c:Int) * (p:Int)=(r:Int):=by rw[←hr,Int.natCast_mul]
    have hm0:(0:Int)≤(b:Int) * (p:Int):=by omega
    have hm1:(b:Int) * (p:Int)<18446744073709551616:=by omega
    have hn0:(0:Int)≤(c:Int) * (p:Int):=by omega
    have hn1:(c:Int) * (p:Int)<18446744073709551616:=by omega
    have ht0:(0:Int)≤(y:Int) - (b:Int) * (p:Int):=by omega
    have ht1:(y:Int) - (b:Int) * (p:Int)<18446744073709551616:=by omega
    have hs0:(0:Int)≤(y:Int) - (b:Int) * (p:Int)+(c:Int) * (p:Int):=by omega
    have hs1:(y:Int) - (b:Int) * (p:Int)+(c:Int) * (p:Int)<18446744073709551616:=by omega
    have hE:(((y - q+r:Nat):Int))=(y:Int) - (b:Int) * (p:Int)+(c:Int) * (p:Int):=by omega
    have HE:=hid hE
    have H1:=hid h1
    have H2:=hid h2
    have H3:=hid h3
    have H5:=hid h5
    clear hb hp hc hq hr hy h1 h2 h3 h3' h4 h5 hm hn hE hyb
    go_wp2_with fail
    refine H1.out.mono ?_
    rintro e w1 ⟨rfl,rfl⟩
    go_wp2_with fail
    refine H2.out.mono ?_
    rintro e w2 ⟨rfl,rfl⟩
    go_wp2_with fail
    refine H5.out.mono ?_
    rintro e w3 ⟨rfl,rfl⟩
    go_wp2_with fail
    refine H2.out.mono ?_
    rintro e w4 ⟨rfl,rfl⟩
    go_wp2_with fail
    go_roundw
    case rel=>exact ⟨j+1,by omega,by go_num,by rw[H3.out,HE.out],trivial⟩
    case measure=>simp[intOf];omega
  · obtain rfl:j=n:=by omega
    have HY:=hid hy
    clear hy
    go_wp2_with fail
    go_ret
    rw[HY.out]
    exact ⟨by go_num,rfl⟩
end Go.Proofs.YtpcajamacpbjcaaGreat
namespace Go.Proofs.YtpcajamacpbjcaaGreat
open Lib (hid)
open Go.RowKit
set_option maxRecDepth 100000 in
set_option maxHeartbeats 1000000 in
theorem zww (x:Nat) (w:World) (hx:x<18446744073709551616) :
  Calls Tryz.prog 249 #[.int .u64 (x:Int)] w fun e w'=>e=.returned (.agg (zby x 8))∧Below w.heap.size w w':=by
 have hzv:=zAg
 have HX:=hid hx
 clear hx
 go_enter Tryz.func249,Tryz.ntmps249
 go_wp2_with fail
 go_loopw [0,4] (fun v i wr=>∃ k:Nat,k≤8∧i=.int .i64 k∧v=.int .u64 ((x / 256 ^ k:Nat):Int)∧Bx wr w.heap.size 308 zgk∧Bx wr (w.heap.size+1) 308 (zby x k)∧Below w.heap.size w wr) (fun _ i _=>8 - (intOf i).toNat)
 case atStart =>
  refine ⟨0,Nat.zero_le _,rfl,by simp,(Bx.new w _ _).alloc _,?_,((Below.refl _ _).alloc (Nat.le_refl _) _).alloc (by simp) _⟩
  have:=Bx.new (w.alloc (.cells zgk 308)) 308 zgk
  rw[World.size_alloc] at this
  rw[←zuz];exact this
 case round =>
  obtain ⟨k,hk,rfl,rfl,b0,b1,hB⟩:=hrel
  have hz:=hB.size
  by_cases hlt:k<8
  · have hc:=b1.cell k
    rw[zeg _ _ _ hlt] at hc
    have hf:=b1.frozen k
    have HST:=hid (zm8 x k hlt)
    have HB1:=hid b1
    have HB0:=hid b0
    have ik0:(0:Int)≤(k:Int):=by omega
    have ik1:(k:Int)<8:=by omega
    obtain ⟨y,hy⟩:∃ y,x / 256 ^ k=y:=⟨_,rfl⟩
    have HYB:Hid (y<18446744073709551616):=hid (by rw[←hy];exact Nat.lt_of_le_of_lt (Nat.div_le_self _ _) HX.out)
    have HBY:Hid (zhq x k=y % 256):=hid (by rw[←hy];rfl)
    have HN:Hid (x / 256 ^ (k+1)=y / 256):=hid (by rw[←hy,Nat.pow_succ,Nat.div_div_eq_div_mul])
    have hy0:(0:Int)≤(y:Int):=by omega
    have hy1:(y:Int) / 256<18446744073709551616:=by have:=HYB.out;omega
    have hy2:(0:Int)≤(y:Int) / 256:=by omega
    rw[hy]
    clear b0 b1 hy
    go_wp2_with fail
    refine ⟨⟨k+1,by omega,by go_num,by rw[HN.out];go_num,HB0.out.far (p:=⟨w.heap.size+1,k,none⟩) (by dsimp only;omega) _,?_,hB.setCell (p:=⟨w.heap.size+1,k,none⟩) (by dsimp only;omega) _⟩,by simp[intOf];omega⟩
    rw[←HST.out,HBY.out]
    exact HB1.out.set_ k _
  · obtain rfl:k=8:=by omega
    have hi:(Tryz.prog.info? 308).map (·.size)=some (zby x 8).size:=by rw[zbk];exact zJ9
    have h1c:=zi0 x 8
    have hth:=zl9 b0
    rw[show zgk.size=(zby x 8).size by rw[zbk];simp[zgk]] at hth
    have HB2:=hid (zf8 b0 (cs:=zby x 8) (by rw[zbk];simp[zgk]))
    have HB1:=hid b1
    have HBL:=hid (zdd (Nat.le_refl _) (zby x 8).toList (o:=0) hB)
    clear b0 b1
    obtain ⟨cs,hcs⟩:∃ cs,zby x 8=cs:=⟨_,rfl⟩
    have HCS:=hid hcs
    rw[hcs] at hi h1c hth HB2 HB1 HBL
    obtain ⟨y,hy⟩:∃ y,x / 256 ^ 8=y:=⟨_,rfl⟩
    rw[hy]
    clear hcs hy
    go_wp2_with (first
     | (refine wpList_load_row rfl _ _ rfl (w.heap.size+1) (by rfl) 308 cs (0,0) _ HB1.out Tryz.underlying308 (by rfl) hi ?_)
     | (refine wpList_store_mid rfl _ _ _ rfl w.heap.size 0 cs (by rfl) (by rfl) hth hi h1c ?_))
    exact bodyPost_ret (v:=.agg cs) (results_cell_row rfl _ _ w.heap.size _ cs (0,0) _ (by rfl) HB2.out Tryz.underlying308 (by rfl) hi) rfl ⟨by rw[HCS.out],HBL.out⟩
theorem zG3 (s b:Nat) (hb:b<256):zHy s b=(s - s % 256+((s % 256) ^^^ b)) * 1099511628211 % 18446744073709551616:=by rw[zJ4 s b hb];rfl
theorem zxb (s b:Nat) (hb:b<256):(s % 256) ^^^ b<256:=Nat.xor_lt_two_pow (n:=8) (Nat.mod_lt _ (by omega)) hb
set_option maxRecDepth 100000 in
set_option maxHeartbeats 1000000 in
theorem step_c (s b:Nat) (w:World) (hs:s<18446744073709551616) (hb:b<256) :
  Calls Tryz.prog 250 #[.int .u64 (s:Int),.int .u8 (b:Int)] w fun e w'=>e=.returned (.int .u64 ((zHy s b:Nat):Int))∧w'=w:=by
 have HR:=hid (zG3 s b hb)
 have hl:=zxb s b hb
 have hx:=u8_xor_nat (s % 256) b (Nat.mod_lt _ (by omega)) hb
 rw[Int.natCast_emod] at hx
 obtain ⟨q,hq⟩:∃ q,(s % 256) ^^^ b=q:=⟨_,rfl⟩
 rw[hq] at HR hl hx
 have hx':bits .xor .u8 ((s:Int) % 256) (b:Int)=(q:Int):=hx
 have hs0:(0:Int)≤(s:Int):=by omega
 have ht0:(0:Int)≤(s:Int) - (s:Int) % 256:=by omega
 have ht1:(s:Int) - (s:Int) % 256<18446744073709551616:=by omega
 have hu0:(0:Int)≤(s:Int) - (s:Int) % 256+(q:Int):=by omega
 have hu1:(s:Int) - (s:Int) % 256+(q:Int)<18446744073709551616:=by omega
 have HE:Hid ((s:Int) - (s:Int) % 256+(q:Int)=((s - s % 256+q:Nat):Int)):=hid (by omega)
 clear hs hb hq hx
 go_enter Tryz.func250,Tryz.ntmps250
 go_wp2_with fail
 go_ret
 refine ⟨?_,rfl⟩
 rw[HR.out,←zle,Int.natCast_mul,←HE.out]
 rfl
set_option maxRecDepth 100000 in
set_option maxHeartbeats 1600000 in
theorem zv2 (s:Nat) (A:Option Addr) (l:List Nat) (c n:Nat) (w:World) (hn:l.length=n) (hm:n≤2048) (hs:s<18446744073709551616) (hr:RdW w w.heap.size A l) (ho:∀ x ∈ l,x<18446744073709551616) :
  Calls Tryz.prog 199 #[.int .u64 (s:Int),.slice A n c] w fun e w'=>e=.returned (.int .u64 (zbh s l:Nat))∧Below w.heap.size w w':=by
 subst hn
 have HR:=hid hr
 have HO:=hid ho
 have HS:=hid hs
 have hzv:=zAg
 clear hr ho hs
 obtain ⟨i0,hi,hz0,hz1,hz2⟩:=info_parts zjj
 have HI:=hid hi
 have HZ0:=hid hz0
 have HZ1:=hid hz1
 have HZ2:=hid hz2
 clear hi hz0 hz1 hz2
 go_enter Tryz.func199,Tryz.ntmps199
 go_wp2_with fail
 go_loopw [0,5] (fun st i wr=>∃ k:Nat,k≤l.length∧i=.int .i64 k∧st=.int .u64 (zbh s (l.take k):Nat)∧Below w.heap.size w wr) (fun _ i _=>l.length - (intOf i).toNat)
 case atStart=>exact ⟨0,Nat.zero_le _,rfl,rfl,Below.refl _ _⟩
 case round =>
  obtain ⟨k,hk,rfl,rfl,hB⟩:=hrel
  have hz:=hB.size
  by_cases hlt:k<l.length
  · obtain ⟨b,off,rfl,hb,h0⟩:=RdW.at_ HR.out hlt
    replace h0:=(hB.cell (p:=⟨b,off+k,none⟩) hb).trans h0
    have HX:=hid (HO.out l[k] (List.getElem_mem hlt))
    have HT:=hid (zlj hlt s)
    obtain ⟨x,hx⟩:∃ x,l[k]=x:=⟨_,rfl⟩
    rw[hx] at h0 HX HT
    have HQ:=hid (zin HS.out (l.take k))
    obtain ⟨q,hq⟩:∃ q,zbh s (l.take k)=q:=⟨_,rfl⟩
    rw[hq] at HT HQ ⊢
    clear hx hq
    have ik1:(0:Int)≤(k:Int):=by omega
    have ik2:(k:Int)<(l.length:Int):=by omega
    go_wp2_with fail
    refine (zww x _ HX.out).mono ?_
    rintro e w1 ⟨rfl,hB1⟩
    have hb1:=hB.trans (hB1.mono hz)
    have hz1:=hb1.size
    have b0:=Bx.new w1 308 zgk
    have hi:(Tryz.prog.info? 308).map (·.size)=some (zby x 8).size:=by rw[zbk];exact zJ9
    have h1c:=zi0 x 8
    have hth:=zl9 b0
    rw[show zgk.size=(zby x 8).size by rw[zbk];simp[zgk]] at hth
    have HB2:=hid (zf8 b0 (cs:=zby x 8) (by rw[zbk];simp[zgk]))
    have HBL:=hid (zdd hz1 (zby x 8).toList (o:=0) (hb1.alloc hz1 (.cells zgk 308)))
    clear b0
    obtain ⟨cs,hcs⟩:∃ cs,zby x 8=cs:=⟨_,rfl⟩
    have HCS:=hid hcs
    rw[hcs] at hi h1c hth HB2 HBL ⊢
    clear hcs
    go_wp2_with (refine wpList_store_mid rfl _ _ _ rfl w1.heap.size 0 cs (by rfl) (by rfl) hth hi h1c ?_)
    go_loopw [0,7] (fun st i wr=>∃ j:Nat,j≤8∧i=.int .i64 j∧st=.int .u64 (zC2 q x j:Nat)∧Bx wr w1.heap.size 308 cs∧Below w.heap.size w wr) (fun _ i _=>8 - (intOf i).toNat)
    case atStart=>exact ⟨0,Nat.zero_le _,rfl,rfl,HB2.out,HBL.out⟩
    case round =>
     obtain ⟨j,hj,rfl,rfl,bx,hB2⟩:=hrel
     by_cases hlj:j<8
     · have hc:=bx.cell j
       rw[←HCS.out,zeg x 8 j hlj,if_pos hlj] at hc
       have hf:=bx.frozen j
       have hlb:=bx.lt
       have HBX:=hid bx
       have hbt:=zrn x j
       have HFN:=hid (ztb HQ.out x j)
       have HNX:Hid (zC2 q x (j+1)=zHy (zC2 q x j) (zhq x j)):=hid rfl
       obtain ⟨p,hp⟩:∃ p,zC2 q x j=p:=⟨_,rfl⟩
       obtain ⟨y,hy⟩:∃ y,zhq x j=y:=⟨_,rfl⟩
       rw[hp] at HFN HNX ⊢
       rw[hy] at hbt hc HNX
       have ij0:(0:Int)≤(j:Int):=by omega
       have ij1:(j:Int)<8:=by omega
       clear hp hy bx
       go_wp2_with fail
       refine (step_c p y _ HFN.out hbt).mono ?_
       rintro e w2 ⟨rfl,rfl⟩
       obtain ⟨r,hr⟩:∃ r,zHy p y=r:=⟨_,rfl⟩
       rw[hr] at HNX ⊢
       clear hr
       go_wp2_with fail
       refine ⟨⟨j+1,by omega,by go_num,by rw[HNX.out],HBX.out,hB2⟩,by simp[intOf];omega⟩
     · obtain rfl:j=8:=by omega
       clear bx
       go_wp2_with fail
       go_roundw
       case rel=>exact ⟨k+1,by omega,by go_num,by rw[HT.out];rfl,hB2⟩
       case measure=>simp[intOf];omega
  · obtain rfl:k=l.length:=by omega
    rw[List.take_length]
    go_wp2_with fail
    go_ret
    exact ⟨rfl,hB⟩
section
set_option maxHeartbeats 800000
theorem sum_c (A:Option Addr) (l:List Nat) (c n:Nat) (w:World) (hn:l.length=n) (hm:n≤2048) (hr:RdW w w.heap.size A l) (ho:∀ x ∈ l,x<18446744073709551616) :
  Calls Tryz.prog 138 #[.slice A n c] w fun e w'=>e=.returned (.int .u64 (zbh 14695981039346656037 l:Nat))∧Below w.heap.size w w':=by
 have HR:=hid hr
 have HO:=hid ho
 have HN:=hid hn
 clear hr ho hn
 go_enter Tryz.func138,Tryz.ntmps138
 go_wp2_with fail
 refine (zv2 14695981039346656037 A l c n w HN.out hm (by omega) HR.out HO.out).mono ?_
 rintro e w1 ⟨rfl,hB1⟩
 obtain ⟨q,hq⟩:∃ q,zbh 14695981039346656037 l=q:=⟨_,rfl⟩
 have HQE:=hid hq
 rw[hq]
 clear hq
 go_wp2_with fail
 go_ret
 exact ⟨by rw[HQE.out];rfl,hB1⟩
theorem zu9 (A:Option Addr) (l:List Nat) (c n:Nat) (w:World) (hn:l.length=n) (hm:n≤2048) (hr:RdW w w.heap.size A l) (ho:∀ x ∈ l,x<18446744073709551616) :
  Calls Tryz.prog 140 #[.slice A n c,.int .i64 32] w fun e w'=>e=.returned (.int .u64 ((zbh 14695981039346656037 l % 4294967296:Nat):Int))∧Below w.heap.size w w':=by
 have HR:=hid hr
 have HO:=hid ho
 have HN:=hid hn
 clear hr ho hn
 go_enter Tryz.func140,Tryz.ntmps140
 go_wp2_with fail
 refine (sum_c A l c n w HN.out hm HR.out HO.out).mono ?_
 rintro e w1 ⟨rfl,hB1⟩
 have HQL:=hid (zin (s:=14695981039346656037) (by omega) l)
 obtain ⟨q,hq⟩:∃ q,zbh 14695981039346656037 l=q:=⟨_,rfl⟩
 have HQE:=hid hq
 rw[hq] at HQL ⊢
 clear hq
 go_wp2_with fail
 refine (zhy q 0 32 w1 HQL.out (by omega)).mono ?_
 rintro e w2 ⟨rfl,rfl⟩
 obtain ⟨r,hr⟩:∃ r,zbq q 0 32=r:=⟨_,rfl⟩
 have HRE:=hid hr
 rw[hr]
 clear hr
 go_wp2_with fail
 go_ret
 exact ⟨by rw[HQE.out,←HRE.out];simp[zbq],hB1⟩
end
end Go.Proofs.YtpcajamacpbjcaaGreat
namespace Go.Proofs.YtpcajamacpbjcaaGreat
open Lib (hid)
open Go.RowKit
theorem zie {w f n v:Nat} (hw:w<2 ^ f) (hv:v<2 ^ n):zhi w f n v=w+v * 2 ^ f:=by
 unfold zhi zbq
 rw[Nat.div_eq_of_lt hw,Nat.zero_mod,Nat.zero_mul,Nat.sub_zero,Nat.mod_eq_of_lt hv]
set_option maxRecDepth 100000 in
set_option maxHeartbeats 1600000 in
theorem zm9 (K T S:Nat) (m:Bool) (w:World) (h1:K<256) (h2:T<128) (h3:S<65536) :
   Calls Tryz.prog 90 #[.int .i64 (K:Int),.bool m,.int .i64 (T:Int),.int .i64 (S:Int)] w fun e w'=>e=.returned (.int .u64 ((K+znu m * 256+T * 512+S * 65536+zgi (K+znu m * 256+T * 512+S * 65536) % 4294967296 * 4294967296:Nat):Int))∧Below w.heap.size w w':=by
 obtain ⟨M,hM⟩:∃ M,znu m=M:=⟨_,rfl⟩
 have hM1:M<2:=by rw[←hM];cases m <;> simp[znu]
 have k1:=hid (fun W=>zr4 0 0 8 K W (by omega) (by omega) (by omega))
 have e1:=zie (w:=0) (f:=0) (n:=8) (v:=K) (by omega) (by omega)
 have e2:=zie (w:=K) (f:=8) (n:=1) (v:=1) (by omega) (by omega)
 have e3:=zie (w:=K+M * 256) (f:=9) (n:=7) (v:=T) (by omega) (by omega)
 have e4:=zie (w:=K+M * 256+T * 512) (f:=16) (n:=16) (v:=S) (by omega) (by omega)
 have hlo:K+M * 256+T * 512+S * 65536<4294967296:=by omega
 have HP:=hid (Nat.mod_lt (zgi (K+M * 256+T * 512+S * 65536)) (show 4294967296 > 0 by omega))
 have k2:=hid (fun W=>zr4 K 8 1 1 W (by omega) (by omega) (by omega))
 have k3:=hid (fun W=>zr4 (K+M * 256) 9 7 T W (by omega) (by omega) (by omega))
 have k4:=hid (fun W=>zr4 (K+M * 256+T * 512) 16 16 S W (by omega) (by omega) (by omega))
 rw[show 0+K * 2 ^ 0=K by omega] at e1
 rw[e1] at k1
 rw[e2] at k2
 rw[e3] at k3
 rw[e4] at k4
 have e5:=zie (w:=K+M * 256+T * 512+S * 65536) (f:=32) (n:=32) (v:=zgi (K+M * 256+T * 512+S * 65536) % 4294967296) (by omega) HP.out
 have k5:=hid (fun W=>zr4 (K+M * 256+T * 512+S * 65536) 32 32 (zgi (K+M * 256+T * 512+S * 65536) % 4294967296) W (by omega) (by have:=HP.out;omega) (by omega))
 rw[e5] at k5
 rw[hM]
 have hK1:K+1 * 2 ^ 8=K+256:=by omega
 have hT1:K+M * 256+T * 2 ^ 9=K+M * 256+T * 512:=by omega
 have hS1:K+M * 256+T * 512+S * 2 ^ 16=K+M * 256+T * 512+S * 65536:=by omega
 rw[hK1] at k2
 rw[hT1] at k3
 rw[hS1] at k4
 clear e1 e2 e3 e4 e5 hK1 hT1 hS1
 obtain ⟨A1,hA1⟩:∃ A1,K+M * 256=A1:=⟨_,rfl⟩
 rw[hA1] at k3 k4 k5 hlo HP ⊢
 obtain ⟨A2,hA2⟩:∃ A2,A1+T * 512=A2:=⟨_,rfl⟩
 rw[hA2] at k3 k4 k5 hlo HP ⊢
 obtain ⟨A3,hA3⟩:∃ A3,A2+S * 65536=A3:=⟨_,rfl⟩
 rw[hA3] at k4 k5 hlo HP ⊢
 have HA1:Hid (m=true→K+256=A1):=hid (fun h=>by subst h;simp[znu] at hM;omega)
 have HA0:Hid (m=false→K=A1):=hid (fun h=>by subst h;simp[znu] at hM;omega)
 clear hA1 hA2 hA3 hM
 cases m
 · obtain rfl:=HA0.out rfl
   clear HA0 HA1
   go_enter Tryz.func90,Tryz.ntmps90
   go_wp2_with fail
   refine (k1.out _).mono ?_
   rintro e w1 ⟨rfl,rfl⟩
   go_wp2_with fail
   refine (k3.out _).mono ?_
   rintro e w2 ⟨rfl,rfl⟩
   go_wp2_with fail
   refine (k4.out _).mono ?_
   rintro e w3 ⟨rfl,rfl⟩
   go_wp2_with fail
   have hrd:=znr w3 [.int .u64 (A3:Int)] 53
   refine (zu9 _ [A3] _ 1 _ rfl (by omega) (by rw[World.size_alloc];exact hrd) (by intro y hy;simp at hy;subst hy;omega)).mono ?_
   rintro e w4 ⟨rfl,hB1⟩
   rw[World.size_alloc] at hB1
   have hb1:=zan hB1
   rw[show zbh 14695981039346656037 [A3]=zgi A3 from rfl]
   clear hB1 hrd
   go_wp2_with fail
   refine (k5.out _).mono ?_
   rintro e w5 ⟨rfl,rfl⟩
   go_wp2_with fail
   go_ret
   exact ⟨rfl,hb1⟩
 · obtain rfl:=HA1.out rfl
   clear HA0 HA1
   go_enter Tryz.func90,Tryz.ntmps90
   go_wp2_with fail
   refine (k1.out _).mono ?_
   rintro e w1 ⟨rfl,rfl⟩
   go_wp2_with fail
   refine (k2.out _).mono ?_
   rintro e w1 ⟨rfl,rfl⟩
   go_wp2_with fail
   refine (k3.out _).mono ?_
   rintro e w2 ⟨rfl,rfl⟩
   go_wp2_with fail
   refine (k4.out _).mono ?_
   rintro e w3 ⟨rfl,rfl⟩
   go_wp2_with fail
   have hrd:=znr w3 [.int .u64 (A3:Int)] 53
   refine (zu9 _ [A3] _ 1 _ rfl (by omega) (by rw[World.size_alloc];exact hrd) (by intro y hy;simp at hy;subst hy;omega)).mono ?_
   rintro e w4 ⟨rfl,hB1⟩
   rw[World.size_alloc] at hB1
   have hb1:=zan hB1
   rw[show zbh 14695981039346656037 [A3]=zgi A3 from rfl]
   clear hB1 hrd
   go_wp2_with fail
   refine (k5.out _).mono ?_
   rintro e w5 ⟨rfl,rfl⟩
   go_wp2_with fail
   go_ret
   exact ⟨rfl,hb1⟩
end Go.Proofs.YtpcajamacpbjcaaGreat
