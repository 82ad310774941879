/- Texts laid together: Knd KndW KndR Mrk Mrk2 Fwt Fww. -/
import Derived.Test.YtpcajamacpbjcaaGreatZKPlain
import Derived.Test.YtpcajamacpbjcaaGreatZKHead
import Derived.Deep.RegionHeld3
import Derived.Deep.DrawnRows
import Derived.Test.YtpcajamacpbjcaaGreatZKPlace
namespace Go.Proofs.YtpcajamacpbjcaaGreat
open Lib (hid)
open Go.RowKit
def zbg (x:Nat):List Value:=[.int .u8 (x:Int)]
theorem zp5 (x:Nat):(zbg x).length=1:=rfl
def RdY (w:World) (B:Nat) (A:Option Addr) (l:List Nat):Prop:=Rd w B A (l.flatMap zbg)
theorem RdY.at_ {w:World} {B:Nat} {A:Option Addr} {l:List Nat} (h:RdY w B A l) {k:Nat} (hk:k<l.length) :
  ∃ b off,A=some ⟨b,off,none⟩∧b<B∧w.cell? ⟨b,off+k,none⟩=some (.int .u8 (l[k]:Int)):=by
 obtain ⟨b,off,e,hb,hc⟩:=Rd.at_flat zp5 h (by omega) hk
 have:=hc 0 (by omega)
 simp only[Nat.mul_one,Nat.add_zero] at this
 exact ⟨b,off,e,hb,this⟩
theorem zxi {l:List Nat} {k:Nat} (hk:k<l.length) (h:zdk (l.take k)=true) (h1:1≤l[k]) (h2:l[k]≤3):zdk (l.take (k+1))=true:=by
 rw[List.take_succ_eq_append_getElem hk]
 rw[zco] at h ⊢
 intro x hx
 rw[List.mem_append] at hx
 rcases hx with hx|hx
 · exact h x hx
 · simp only[List.mem_cons,List.not_mem_nil,or_false] at hx
   subst hx;exact ⟨h1,h2⟩
set_option maxRecDepth 100000 in
set_option maxHeartbeats 800000 in
theorem zuo (A:Option Addr) (l:List Nat) (c n B:Nat) (w:World) (hn:l.length=n) (hm:n≤9223372036854775807) (hr:RdY w B A l) :
   Calls Tryz.prog 118 #[.slice A n c] w fun e w'=>e=.returned (.int .i64 (zcv l))∧w=w':=by
 subst hn
 have HR:=hid hr
 clear hr
 by_cases h8:8<l.length
 · have HE:=hid (zs7 h8)
   go_enter Tryz.func118,Tryz.ntmps118
   go_wp2_with fail
   go_ret
   exact ⟨by rw[HE.out];rfl,rfl⟩
 · have h8':l.length≤8:=by omega
   have HB:Hid (zdk l=false→zcv l=8):=hid fun h=>zkr h8' h
   have HO:Hid (zdk l=true→zcv l=0):=hid fun h=>zh8 h8' h
   clear h8
   go_enter Tryz.func118,Tryz.ntmps118
   go_wp2_with fail
   go_loop [10] (fun i=>∃ k:Nat,k≤l.length∧i=.int .i64 k∧Hid (zdk (l.take k)=true)) (fun i=>l.length - (intOf i).toNat)
   case atStart=>exact ⟨0,Nat.zero_le _,rfl,rfl⟩
   case round =>
    obtain ⟨k,hk,rfl,HK⟩:=hrel
    by_cases hlt:k<l.length
    · obtain ⟨b,off,rfl,hb,h0⟩:=HR.out.at_ hlt
      have HS:=hid (fun h1 h2=>zxi hlt HK.out h1 h2)
      have HN:=hid (fun h=>zC4 hlt h)
      obtain ⟨x,hx⟩:∃ x,l[k]=x:=⟨_,rfl⟩
      rw[hx] at h0 HS HN
      clear hx
      by_cases h1:x<1
      · have E:=hid (HB.out (HN.out (.inl h1)))
        go_wp2_with fail
        go_ret
        exact ⟨by rw[E.out];rfl,rfl⟩
      · by_cases h2:3<x
        · have E:=hid (HB.out (HN.out (.inr h2)))
          go_wp2_with fail
          go_ret
          exact ⟨by rw[E.out];rfl,rfl⟩
        · have h3:1≤x:=by omega
          have h4:x≤3:=by omega
          clear h1 h2
          go_wp2_with fail
          go_round
          case rel=>exact ⟨k+1,by omega,by go_num,HS.out h3 h4⟩
          case measure=>simp[intOf];omega
    · have E:=hid (HO.out (by have:=HK.out;rwa [List.take_of_length_le (by omega)] at this))
      go_wp2_with fail
      go_ret
      exact ⟨by rw[E.out];rfl,rfl⟩
def kSz (l:List Nat):Nat:=if zcv l=0 then za8 l.length else 0
set_option maxRecDepth 100000 in
set_option maxHeartbeats 800000 in
theorem ztc (A:Option Addr) (l:List Nat) (c n B:Nat) (w:World) (hn:l.length=n) (hm:n≤9223372036854775807) (hr:RdY w B A l) :
   Calls Tryz.prog 158 #[.slice A n c] w fun e w'=>e=.returned (.tuple #[.int .i64 (kSz l:Nat),.int .i64 (zcv l)])∧w=w':=by
 have HC:=hid (zuo A l c n B w hn hm hr)
 clear hr
 by_cases h0:zcv l=0
 · have hl:=(zja h0).1
   have HS:=hid (show ((kSz l:Nat):Int)=2+((n:Int)+1) / 2 * 2 by simp only[kSz,h0,if_true,za8,hn];omega)
   rw[hn] at hl
   rw[h0] at HC
   have H0:=hid h0
   clear h0 hn
   go_enter Tryz.func158,Tryz.ntmps158
   go_wp2_with fail
   refine HC.out.mono ?_
   rintro e w1 ⟨rfl,rfl⟩
   go_wp2_with fail
   go_ret2
   exact ⟨by rw[HS.out,H0.out];rfl,rfl⟩
 · have HS:=hid (show kSz l=0 by simp[kSz,h0])
   have hne:(zcv l != 0)=true:=by rw[bne_iff_ne];exact h0
   clear h0 hn
   go_enter Tryz.func158,Tryz.ntmps158
   go_wp2_with fail
   refine HC.out.mono ?_
   rintro e w1 ⟨rfl,rfl⟩
   go_wp2_with fail
   go_ret2
   exact ⟨by rw[HS.out];rfl,rfl⟩
end Go.Proofs.YtpcajamacpbjcaaGreat
namespace Go.Proofs.YtpcajamacpbjcaaGreat
open Lib (hid)
open Go.RowKit
def zB2 (a b:Nat):Value:=.agg #[.int .u64 (a:Int),.int .u64 (b:Int)]
def kwV (l:List Nat):Value:=if zcv l=0 then zB2 (zgu l) (zgi (zgu l)) else zB2 0 0
def fw (l:List Nat) (k:Nat):Nat:=l.length+zl4 (l.take k) 4
theorem zi9 {fn:Func} {p q:Tmp} (h:fn.results=#[.cell p 157,.tmp q]) (tmps:Array Value) {W:World} {g:Nat} {t:TypeId} {v0 v1 u:Value} (hb:Bx W g t #[v0,v1]) (hp:tmps.getD p undef=.pointer (some ⟨g,0,none⟩)) (hq:tmps.getD q undef=u) :
  (results fn tmps).run Tryz.prog W=.ok (.tuple #[.agg #[v0,v1],u]) W:=by
 obtain ⟨c0,c1,-⟩:=hb.c2
 rw[Array.getD_eq_getD_getElem?] at hp hq
 simp[results,h,hp,hq,go_sem,c0,c1]
theorem fw_lt {l:List Nat} (h:l.length≤8) (hk:zdk l=true) (k:Nat):fw l k<4 ^ (4+k):=by
 have h1:=zt5 (l.take k) 4 (fun x hx=>((zco l).1 hk x (List.mem_of_mem_take hx)).2)
 have h2:4 ^ (4+(l.take k).length)≤4 ^ (4+k):=Nat.pow_le_pow_right (by omega) (by rw[List.length_take];omega)
 have h4:(4:Nat) ^ 4=256:=by decide
 unfold fw;omega
theorem zLi {l:List Nat} {k x:Nat} (h:l.length≤8) (hk:zdk l=true) (hlt:k<l.length) (hx:l[k]=x) :
  bits BinOp.or .u64 (fw l k:Nat) (IntKind.u64.wrap ((x:Int) * 2 ^ (8+2 * k)))=((fw l (k+1):Nat):Int):=by
 have hx3:x≤3:=by rw[←hx];exact ((zco l).1 hk l[k] (List.getElem_mem hlt)).2
 have hq:=fw_lt h hk k
 have e1:(2:Nat) ^ (8+2 * k)=4 ^ (4+k):=by rw[show 8+2 * k=2 * (4+k) by omega,Nat.pow_mul]
 have hp:(4:Nat) ^ (4+k)≤4 ^ 11:=Nat.pow_le_pow_right (by omega) (by omega)
 have h11:(4:Nat) ^ 11=4194304:=by decide
 have hb:x * 2 ^ (8+2 * k)≤3 * 4194304:=by
  rw[e1]
  exact Nat.le_trans (Nat.mul_le_mul_right _ hx3) (by omega)
 have e2:(x:Int) * 2 ^ (8+2 * k)=((x * 2 ^ (8+2 * k):Nat):Int):=by simp
 rw[e2,IntWalk.u64_in _ (by omega),u64_or_nat _ _ (by omega) (by omega),zi1 (by rw[e1];exact hq)]
 have e3:fw l (k+1)=fw l k+x * 4 ^ (4+k):=by
  unfold fw
  rw[List.take_succ_eq_append_getElem hlt,zm4,hx,List.length_take,Nat.min_eq_left (by omega)]
  simp only[zl4]
  omega
 rw[e3,e1]
theorem fw_end (l:List Nat):fw l l.length=zgu l:=by unfold fw zgu;rw[List.take_length]
set_option maxRecDepth 100000 in
set_option maxHeartbeats 2000000 in
theorem zvx (A:Option Addr) (l:List Nat) (c n:Nat) (w:World) (hn:l.length=n) (hm:n≤9223372036854775807) (hr:RdY w w.heap.size A l) :
   Calls Tryz.prog 175 #[.slice A n c] w fun e w'=>e=.returned (.tuple #[kwV l,.int .i64 (zcv l)])∧Below w.heap.size w w':=by
 subst hn
 have HR:=hid hr
 have bx:=Bx.new w 157 #[.int .u64 0,.int .u64 0]
 have HC:=hid (zuo A l c l.length w.heap.size (w.alloc (.cells #[.int .u64 0,.int .u64 0] 157)) rfl hm (hr.alloc (Nat.le_refl _) _))
 by_cases h0:zcv l=0
 · have hz:=zja h0
   obtain ⟨hz1,hz2⟩:=hz
   have HZ2:=hid hz2
   have HV:=hid (show kwV l=.agg #[.int .u64 (zgu l:Nat),.int .u64 (zgi (zgu l):Nat)] by simp[kwV,h0,zB2])
   have HE:=hid h0
   rw[h0] at HC
   have BX:=hid bx
   clear h0 hz2 bx hr
   go_enter Tryz.func175,Tryz.ntmps175
   go_wp2_with fail
   refine HC.out.mono ?_
   rintro e w1 ⟨rfl,rfl⟩
   go_wp2_with fail
   go_loop [5,21] (fun s i=>∃ k:Nat,k≤l.length∧i=.int .i64 k∧s=.int .u64 (fw l k:Nat)) (fun _ i=>l.length - (intOf i).toNat)
   case atStart=>exact ⟨0,Nat.zero_le _,rfl,by simp[fw,zl4]⟩
   case round =>
    obtain ⟨k,hk,rfl,rfl⟩:=hrel
    by_cases hlt:k<l.length
    · obtain ⟨b,off,rfl,hb,h0⟩:=HR.out.at_ hlt
      replace h0:=(World.cell?_alloc_lt w (.cells #[.int .u64 0,.int .u64 0] 157) ⟨b,off+k,none⟩ hb).trans h0
      obtain ⟨x,hx⟩:∃ x,l[k]=x:=⟨_,rfl⟩
      have hx3:x≤3:=by rw[←hx];exact ((zco l).1 HZ2.out l[k] (List.getElem_mem hlt)).2
      have HST:=hid (zLi hz1 HZ2.out hlt hx)
      obtain ⟨q,hq⟩:∃ q,fw l k=q:=⟨_,rfl⟩
      rw[hx] at h0
      rw[hq] at HST ⊢
      clear hx hq
      go_wp2_with fail
      go_round
      case rel=>exact ⟨k+1,by omega,by go_num,by rw[HST.out]⟩
      case measure=>simp[intOf];omega
    · obtain rfl:k=l.length:=by omega
      have hlt2:=zBj hz1 HZ2.out
      have HSM:Hid (zbh 14695981039346656037 [zgu l]=zgi (zgu l)):=hid rfl
      rw[fw_end]
      obtain ⟨q,hq⟩:∃ q,zgu l=q:=⟨_,rfl⟩
      rw[hq] at hlt2 HV HSM ⊢
      have hi2:(Tryz.prog.info? 157).map (·.size)=some 2:=by kernel_rfl
      clear hq
      go_wp2_with fail
      have hrd:=znr (w.alloc (.cells #[.int .u64 0,.int .u64 0] 157)) [.int .u64 (q:Int)] 53
      refine (zug _ [q] _ 1 _ rfl (by omega) (by simp only[World.size_alloc] at hrd ⊢;exact hrd) (by intro y hy;simp at hy;subst hy;omega)).mono ?_
      rintro e w1 ⟨rfl,hB1⟩
      rw[World.size_alloc,World.size_alloc] at hB1
      have hb1:=(((Below.refl _ _).alloc (Nat.le_refl _) (.cells #[.int .u64 0,.int .u64 0] 157)).alloc (by simp) (.cells #[.int .u64 (q:Int)] 53)).trans (hB1.mono (by omega))
      have bx1:=(BX.out.alloc (.cells #[.int .u64 (q:Int)] 53)).up hB1 (by omega)
      have BX1:=hid bx1
      have HB1:=hid hb1
      rw[HSM.out]
      obtain ⟨z,hz⟩:∃ z,zgi q=z:=⟨_,rfl⟩
      rw[hz] at HV ⊢
      clear hz bx1 hb1 hB1 hrd
      go_wp2_with ((with_reducible refine zbu 157 (.tmp 2) _ ?_);refine zai rfl _ _ _ rfl w.heap.size 157 #[.int .u64 0,.int .u64 0] #[.int .u64 (q:Int),.int .u64 (z:Int)] (by rfl) (by rfl) BX1.out rfl hi2 (by simp[Value.oneCell']) ?_;intro w3 hb3 ha3;have HB3:=hid hb3;have HA3:=hid ha3;clear hb3 ha3)
      exact bodyPost_ret (v:=.tuple #[.agg #[.int .u64 (q:Int),.int .u64 (z:Int)],.int .i64 0]) (zi9 Tryz.results175 _ HB3.out rfl rfl) rfl ⟨by rw[HV.out,HE.out],HA3.out.below HB1.out (Nat.le_refl _)⟩
 · have HV:=hid (show kwV l=.agg #[.int .u64 0,.int .u64 0] by simp[kwV,h0,zB2])
   have hne:(zcv l != 0)=true:=by rw[bne_iff_ne];exact h0
   have BX:=hid bx
   clear h0 bx hr
   go_enter Tryz.func175,Tryz.ntmps175
   go_wp2_with fail
   refine HC.out.mono ?_
   rintro e w1 ⟨rfl,rfl⟩
   go_wp2_with fail
   exact bodyPost_ret (v:=.tuple #[.agg #[.int .u64 0,.int .u64 0],.int .i64 (zcv l)]) (zi9 Tryz.results175 _ BX.out rfl rfl) rfl ⟨by rw[HV.out],(Below.refl _ _).alloc (Nat.le_refl _) _⟩
end Go.Proofs.YtpcajamacpbjcaaGreat
namespace Go.Proofs.YtpcajamacpbjcaaGreat
open Lib (hid)
open Go.RowKit
def zbd (a b:Nat):List Nat:=if zb7 a b=true then zc9 a else []
def zef (a b:Nat):Int:=if zb7 a b=true then 0 else 50
def zFj (a b:Nat) (e:Ending) (w':World):Prop:=∃ A c,e=.returned (.tuple #[.slice A (zbd a b).length c,.int .i64 (zef a b)])∧RdY w' w'.heap.size A (zbd a b)∧(zbd a b).length≤c
theorem zmb {a b:Nat} {w':World} (h:zb7 a b=false):zFj a b (.returned (.tuple #[.slice none 0 0,.int .i64 50])) w':=by
 have h1:zbd a b=[]:=by simp[zbd,h]
 have h2:zef a b=50:=by simp[zef,h]
 exact ⟨none,0,by rw[h1,h2];rfl,by rw[h1];exact Rd.nil_,by rw[h1];simp⟩
theorem zCa {H:Nat} {a b:Nat} {v:Value} {w':World} (h0:zb7 a b=true) (h:w'.ownsRow H 5 1 v (zc9 a).length ((zc9 a).flatMap zbg)):zFj a b (.returned (.tuple #[v,.int .i64 0])) w':=by
 have h1:zbd a b=zc9 a:=by simp[zbd,h0]
 have h2:zef a b=0:=by simp[zef,h0]
 have hc:∃ A c,v=.slice A (zc9 a).length c∧(zc9 a).length≤c:=by
  rcases h.2 with ⟨rfl,hnil⟩|⟨g,cap,cur,rfl,_,_,hle,_⟩
  · exact ⟨none,0,by rw[hnil],by omega⟩
  · exact ⟨_,_,rfl,hle⟩
 obtain ⟨A,c,rfl,hle⟩:=hc
 exact ⟨A,c,by rw[h1,h2],by rw[h1];exact Rd.of_own h,by rw[h1];exact hle⟩
theorem zjb (a b:Nat):zb7 a b=((decide (a % 256≤8) && zdk (zc9 a)) && (zgu (zc9 a) == a && zgi a == b)):=rfl
theorem zun (a k:Nat) (ha:a<18446744073709551616):bits BinOp.and .u64 ((a:Int) / 2 ^ (8+2 * k)) 3=((a / 4 ^ (k+4) % 4:Nat):Int):=by
 have e1:(2:Nat) ^ (8+2 * k)=4 ^ (k+4):=by rw[show 8+2 * k=2 * (k+4) by omega,Nat.pow_mul]
 have e2:(a:Int) / 2 ^ (8+2 * k)=((a / 4 ^ (k+4):Nat):Int):=by rw[←e1];simp
 have h:a / 4 ^ (k+4)<18446744073709551616:=Nat.lt_of_le_of_lt (Nat.div_le_self _ _) ha
 rw[e2]
 exact zuh (k:=2) (m:=3) h (by decide) (by omega)
theorem zop (p q a b:Int) (W:World):(Op.equalIn 10000 157 (.agg #[.int .u64 p,.int .u64 q]) (.agg #[.int .u64 a,.int .u64 b])).run Tryz.prog W=.ok (p == a && q == b) W:=by
 have hu:=Tryz.underlying157
 have hw:=Tryz.underlying53
 have hs:(Op.equalIn 10000 157 (.agg #[.int .u64 p,.int .u64 q]) (.agg #[.int .u64 a,.int .u64 b]))=(Op.equalIn (9999+1) 157 (.agg #[.int .u64 p,.int .u64 q]) (.agg #[.int .u64 a,.int .u64 b])):=rfl
 have hr:List.range' 0 2=[0,1]:=rfl
 have e1:=fun (x y:Int)=>run_equalIn_int W 9998 53 .u64 .u64 x y hw
 rw[hs]
 unfold Op.equalIn
 simp[go_sem,run_underlying hu,Sem.run_bind,hr,List.forIn_cons]
 by_cases h1:p=a <;> by_cases h2:q=b <;> simp[h1,h2,go_sem]
set_option maxRecDepth 100000 in
set_option maxHeartbeats 2000000 in
theorem zqh (a b:Nat) (w:World) (ha:a<18446744073709551616) (hb:b<18446744073709551616) :
   Calls Tryz.prog 117 #[.int .u64 (a:Int),.int .u64 (b:Int)] w fun e w'=>zFj a b e w'∧Below w.heap.size w w':=by
 have HT:=hid (zjb a b)
 have ha0:(0:Int)≤(a:Int):=by omega
 have e1:=(ztf a ha).1
 have HFL:=hid (zet a)
 have HFG:=hid (fun k h=>zpq a k h)
 have HBT:=hid (fun k=>zun a k ha)
 have hm:a % 256<256:=Nat.mod_lt _ (by omega)
 obtain ⟨m,hmm⟩:∃ m,a % 256=m:=⟨_,rfl⟩
 rw[hmm] at e1 HFL HFG HT hm
 by_cases h8:8<m
 · have HB:=hid (show zb7 a b=false by rw[HT.out,show decide (m≤8)=false by rw[decide_eq_false_iff_not];omega];rfl)
   clear hmm ha hb
   go_enter Tryz.func117,Tryz.ntmps117
   go_wp2_with fail
   go_ret2
   exact ⟨zmb HB.out,Below.refl _ _⟩
 · have h8':m≤8:=by omega
   rw[show decide (m≤8)=true by rw[decide_eq_true_iff];exact h8'] at HT
   have hx0:(0:Int)≤(m:Int):=by omega
   have HA:=hid ha
   have HB:=hid hb
   have d8:decide ((8:Int)<(m:Int))=false:=by rw[decide_eq_false_iff_not];omega
   clear hmm ha hb h8 hm
   obtain ⟨i0,hi,hz0,hz1,hz2⟩:=info_parts zjj
   have HI:=hid hi
   have HZ0:=hid hz0
   have HZ1:=hid hz1
   have HZ2:=hid hz2
   clear hi hz0 hz1 hz2
   go_enter Tryz.func117,Tryz.ntmps117
   go_wp2_with fail
   go_loopw [7,16] (fun v i wr=>∃ k:Nat,k≤m∧i=.int .u64 k∧wr.ownsRow w.heap.size 5 1 v k (((zc9 a).take k).flatMap zbg)∧Below w.heap.size w wr) (fun _ i _=>m - (intOf i).toNat)
   case atStart=>exact ⟨0,Nat.zero_le _,rfl,World.ownsRow_nil _ _ _ _,Below.refl _ _⟩
   case round =>
    obtain ⟨k,hk,rfl,hown,hB⟩:=hrel
    have hz:=hB.size
    by_cases hlt:k<m
    · have hbt:=HBT.out k
      have hg:=HFG.out k hlt
      obtain ⟨x,hx⟩:∃ x,a / 4 ^ (k+4) % 4=x:=⟨_,rfl⟩
      have hx3:x<4:=by rw[←hx];exact Nat.mod_lt _ (by omega)
      rw[hx] at hbt hg
      have HFL2:=hid (show ((zc9 a).take (k+1)).flatMap zbg=((zc9 a).take k).flatMap zbg++[.int .u8 (x:Int)] by
        have hl:k<(zc9 a).length:=by rw[HFL.out];exact hlt
        rw[List.take_succ_eq_append_getElem hl,zb6]
        rw[List.getElem?_eq_getElem hl] at hg
        rw[Option.some.inj hg];rfl)
      have hxi:(x:Int)<4:=by omega
      have hx00:(0:Int)≤(x:Int):=by omega
      have hki:(k:Int)<(m:Int):=by omega
      clear hx hg
      go_wp2_with (at_builtin;refine wpList_append_own _ rfl _ _ 113 rfl w.heap.size 5 i0 _ 1 1 Tryz.underlying113 HI.out HZ0.out HZ1.out HZ2.out rfl (by decide) _ _ _ rfl (hown.alloc _) ⟨_,0,none⟩ 1 1 [.int .u8 (x:Int)] rfl rfl (zcl _ _ _) (by simp[Value.oneCell']) (by unfold maxLen;omega) (by omega) (zcq hB.size) ?_;intro v1 w1 hown1 hg1 _;have hB1:=zaw hB hB.size hown hg1)
      go_roundw
      case rel=>exact ⟨k+1,by omega,by go_num,by rw[HFL2.out];exact hown1,hB1⟩
      case measure=>simp[intOf];omega
    · obtain rfl:k=m:=by omega
      rw[List.take_of_length_le (by rw[HFL.out];exact Nat.le_refl _)] at hown
      obtain ⟨A1,c1,rfl⟩:=zbb hown
      have HC:=hid (zvx A1 (zc9 a) c1 k wr HFL.out (by omega) (Rd.of_own hown))
      have hlen8:(zc9 a).length≤8:=by rw[HFL.out];exact h8'
      cases hkn:zdk (zc9 a)
      · have HKE:=hid (zkr hlen8 hkn)
        have HN:=hid (show zb7 a b=false by rw[HT.out,hkn];rfl)
        have HV:=hid (show kwV (zc9 a)=.agg #[.int .u64 0,.int .u64 0] by simp[kwV,HKE.out,zB2])
        rw[HKE.out,HV.out] at HC
        clear hkn hlen8 hown
        go_wp2_with fail
        refine HC.out.mono ?_
        rintro e w1 ⟨rfl,hB1⟩
        have hb1:=hB.trans (hB1.mono hz)
        go_wp2_with fail
        go_ret2
        exact ⟨zmb HN.out,hb1.alloc hb1.size _⟩
      · have HKE:=hid (zh8 hlen8 hkn)
        have HV:=hid (show kwV (zc9 a)=.agg #[.int .u64 (zgu (zc9 a):Nat),.int .u64 (zgi (zgu (zc9 a)):Nat)] by simp[kwV,HKE.out,zB2])
        have HT2:=hid (show zb7 a b=(zgu (zc9 a) == a && zgi (zgu (zc9 a)) == b) by
          rw[HT.out,hkn]
          by_cases h:zgu (zc9 a)=a
          · rw[h];simp
          · rw[show (zgu (zc9 a) == a)=false by rw[beq_eq_false_iff_ne];exact h];simp only[Bool.false_and,Bool.and_false])
        rw[HKE.out,HV.out] at HC
        obtain ⟨p,hp⟩:∃ p,zgu (zc9 a)=p:=⟨_,rfl⟩
        obtain ⟨q,hq⟩:∃ q,zgi p=q:=⟨_,rfl⟩
        rw[hp,hq] at HC HT2
        clear hkn hlen8 hp hq
        by_cases hpa:p=a
        · by_cases hqb:q=b
          · have HY:=hid (show zb7 a b=true by rw[HT2.out,hpa,hqb];simp)
            have hq1:=zop p q a b
            rw[show ((p:Int) == (a:Int))=true by rw[beq_iff_eq];omega,show ((q:Int) == (b:Int))=true by rw[beq_iff_eq];omega,Bool.and_self] at hq1
            clear hpa hqb
            go_wp2_with fail
            refine HC.out.mono ?_
            rintro e w1 ⟨rfl,hB1⟩
            have hb1:=hB.trans (hB1.mono hz)
            have hown1:=zak hown hB1 (Nat.le_refl _)
            go_wp2_with fail
            go_ret2
            refine ⟨zCa HY.out (H:=w.heap.size) ?_,hb1.alloc hb1.size _⟩
            rw[HFL.out];exact hown1.alloc _
          · have HN:=hid (show zb7 a b=false by rw[HT2.out,show (q == b)=false by rw[beq_eq_false_iff_ne];exact hqb,Bool.and_false])
            have hq1:=zop p q a b
            rw[show ((q:Int) == (b:Int))=false by rw[beq_eq_false_iff_ne];omega,Bool.and_false] at hq1
            clear hpa hqb hown
            go_wp2_with fail
            refine HC.out.mono ?_
            rintro e w1 ⟨rfl,hB1⟩
            have hb1:=hB.trans (hB1.mono hz)
            go_wp2_with fail
            go_ret2
            exact ⟨zmb HN.out,hb1.alloc hb1.size _⟩
        · have HN:=hid (show zb7 a b=false by rw[HT2.out,show (p == a)=false by rw[beq_eq_false_iff_ne];exact hpa,Bool.false_and])
          have hq1:=zop p q a b
          rw[show ((p:Int) == (a:Int))=false by rw[beq_eq_false_iff_ne];omega,Bool.false_and] at hq1
          clear hpa hown
          go_wp2_with fail
          refine HC.out.mono ?_
          rintro e w1 ⟨rfl,hB1⟩
          have hb1:=hB.trans (hB1.mono hz)
          go_wp2_with fail
          go_ret2
          exact ⟨zmb HN.out,hb1.alloc hb1.size _⟩
end Go.Proofs.YtpcajamacpbjcaaGreat
namespace Go.Proofs.YtpcajamacpbjcaaGreat
open Lib (hid)
open Go.RowKit
def FlRes (a b:Nat) (e:Ending) (w':World):Prop:=∃ A c,e=.returned (.tuple #[.slice A (zbd a b).length c,.bool (zb7 a b)])∧RdY w' w'.heap.size A (zbd a b)∧(zbd a b).length≤c
theorem zlz (a b:Nat):(zef a b == 0)=zb7 a b:=by
 unfold zef
 cases zb7 a b <;> simp
set_option maxRecDepth 100000 in
set_option maxHeartbeats 2000000 in
theorem zrk (A:Option Addr) (ws:List Nat) (c n t:Nat) (w:World) (hn:ws.length=n) (hm:n≤1000000) (h2:256≤n) (ht:t<8) (hr:RdW w w.heap.size A ws) (ho:∀ x ∈ ws,x<18446744073709551616) :
  Calls Tryz.prog 110 #[.slice A n c,.int .i64 (t:Int)] w fun e w'=>FlRes (wd ws (96+2 * t)) (wd ws (96+2 * t+1)) e w'∧Below w.heap.size w w':=by
 subst hn
 have hx:=ze6 ho (96+2 * t)
 have hy:=ze6 ho (96+2 * t+1)
 have HC:=hid (fun W=>zqh (wd ws (96+2 * t)) (wd ws (96+2 * t+1)) W hx hy)
 have HK:=hid (zlz (wd ws (96+2 * t)) (wd ws (96+2 * t+1)))
 obtain ⟨b,off,rfl,hb,h0⟩:=RdW.at_ hr (show 96+2 * t<ws.length by omega)
 obtain ⟨b',off',e',-,h1⟩:=RdW.at_ hr (show 96+2 * t+1<ws.length by omega)
 cases e'
 rw[←zcb] at h0 h1
 obtain ⟨x,hx2⟩:∃ x,wd ws (96+2 * t)=x:=⟨_,rfl⟩
 obtain ⟨y,hy2⟩:∃ y,wd ws (96+2 * t+1)=y:=⟨_,rfl⟩
 rw[hx2] at h0 HC HK ⊢
 rw[hy2] at h1 HC HK ⊢
 have t0:(0:Int)≤(t:Int):=by omega
 have t8:(t:Int)<8:=by omega
 have w1:IntKind.i64.wrap (2 * (t:Int))=2 * (t:Int):=IntWalk.i64_in _ (by omega)
 have w2:IntKind.i64.wrap (96+2 * (t:Int))=96+2 * (t:Int):=IntWalk.i64_in _ (by omega)
 have w3:IntKind.i64.wrap (96+2 * (t:Int)+1)=96+2 * (t:Int)+1:=IntWalk.i64_in _ (by omega)
 have i1:(0:Int)≤96+2 * (t:Int):=by omega
 have i2:(96:Int)+2 * (t:Int)<(ws.length:Int):=by omega
 have i3:(0:Int)≤96+2 * (t:Int)+1:=by omega
 have i4:(96:Int)+2 * (t:Int)+1<(ws.length:Int):=by omega
 have n1:((96:Int)+2 * (t:Int)).toNat=96+2 * t:=by omega
 have n2:((96:Int)+2 * (t:Int)+1).toNat=96+2 * t+1:=by omega
 clear hr hx hy hx2 hy2 ho ht
 go_enter Tryz.func110,Tryz.ntmps110
 go_wp2_with fail
 go_region_held3 (fun X:World=>X.cell? ⟨b,off+(96+2 * t),none⟩=some (.int .u64 (x:Int))∧X.cell? ⟨b,off+(96+2 * t+1),none⟩=some (.int .u64 (y:Int))) (go_keep)
  (first | (go_at_call 117;refine (HC.out _).mono ?_;rintro e w5 ⟨⟨A1,c1,rfl,hrd,hcl⟩,hB5⟩;have m0:=(hB5.cell (p:=⟨b,off+(96+2 * t),none⟩) hb).trans h0;have m1:=(hB5.cell (p:=⟨b,off+(96+2 * t+1),none⟩) hb).trans h1;have HRD:=hid hrd;have HCL:=hid hcl;clear hrd hcl))
 go_wp2_with fail
 go_ret2
 exact ⟨⟨A1,c1,by rw[HK.out];rfl,HRD.out,HCL.out⟩,(Below.refl _ _).drew.trans hB5⟩
def zLh (ws:List Nat) (e:Ending) (w':World):Prop:=∃ A c,e=.returned (.tuple #[.slice A (zab ws).length c,.int .i64 (zae ws)])∧RdB w' w'.heap.size A (zab ws)∧(zab ws).length≤c
theorem zme {ws:List Nat} {r:Int} {w':World} (hr:zae ws=r) (h0:r≠0):zLh ws (.returned (.tuple #[.slice none 0 0,.int .i64 r])) w':=by
 subst hr
 have:zab ws=[]:=by simp[zab,h0]
 exact ⟨none,0,by rw[this];rfl,by rw[this];exact Rd.nil_,by rw[this];simp⟩
theorem zgr {ws:List Nat} (h:zah (ws.length:Int)=true):ze0 ws.length 128=false:=by
 have:=(zad _).1 h
 simp only[ze0,Bool.or_eq_false_iff,decide_eq_false_iff_not,bne_eq_false_iff_eq];omega
theorem zuv {ws:List Nat} {r:Int} (h:zca ws 128=r) (h0:r≠0):zae ws=r:=by
 subst h
 cases hs:zah (ws.length:Int) with
 | false=>rw[zno hs,zff hs]
 | true =>
  cases hb:blocks ws 128 with
  | none=>rw[zxm hs hb,zeh hs (zgr hs) hb]
  | some l=>exact absurd (zci hs (zgr hs) hb).1 h0
theorem zDv {ws:List Nat} (h:zca ws 128=0):zah (ws.length:Int)=true∧blocks ws 128=some (za5 ws 128):=by
 cases hs:zah (ws.length:Int) with
 | false=>rw[zff hs] at h;cases h
 | true =>
  cases hb:blocks ws 128 with
  | none=>rw[zeh hs (zgr hs) hb] at h;cases h
  | some l=>rw[(zci hs (zgr hs) hb).2];exact ⟨rfl,rfl⟩
theorem zv7 {ws:List Nat} {l:List Bk} {k:Nat} (hk:k<l.length) (h:(l.take k).all (zds ws)=true) (h1:zds ws l[k]=true):(l.take (k+1)).all (zds ws)=true:=by
 rw[List.take_succ_eq_append_getElem hk,List.all_append,h];simp[h1]
theorem zzq {ws:List Nat} {l:List Bk} {k:Nat} (hk:k<l.length) (h1:zds ws l[k]=false):l.all (zds ws)=false:=by
 cases hq:l.all (zds ws) with
 | false=>rfl
 | true=>rw[List.all_eq_true] at hq;rw[hq _ (List.getElem_mem hk)] at h1;cases h1
theorem zBc {a b:Nat} (h:zb7 a b=true):(zbd a b).length=a % 256:=by simp[zbd,h,zet]
theorem zh4 {ws:List Nat} {b:Bk} (hk:b.kind=1):zds ws b=(zb7 (wd ws (tyA b)) (wd ws (tyA b+1)) && b.size == ((za8 (zbd (wd ws (tyA b)) (wd ws (tyA b+1))).length:Nat):Int)):=by
 unfold zds zc2
 rw[hk]
 cases ht:zb7 (wd ws (tyA b)) (wd ws (tyA b+1)) with
 | false=>rfl
 | true=>rw[zBc ht];rfl
theorem zd3 {ws:List Nat} {b:Bk} (hk:b.kind≠1):zds ws b=true:=by
 unfold zds
 rw[show (b.kind != 1)=true by rw[bne_iff_ne];exact hk];rfl
theorem zgp {ws:List Nat} {i:Nat} {l:List Bk} (h:blocks ws i=some l) (h2:i % 2=0) {k:Nat} (hk:k<l.length) (h1:l[k].kind=1):0≤l[k].typ∧l[k].typ<8:=by
 obtain ⟨a,e,-,-,-,b4,-⟩:=zb5 _ _ h h2 k hk
 have h7:=(zbo _).1 (ze4 b4)
 have e1:(bkAt ws a).kind=(zaf (wd ws a)).kind:=rfl
 have e2:(bkAt ws a).typ=(zaf (wd ws a)).typ:=rfl
 rw[e] at h1 ⊢
 omega
theorem zf5 (ws:List Nat) (h:zah (ws.length:Int)=true):256≤ws.length∧ws.length≤2048∧ws.length % 8=0:=by
 have:=(zad _).1 h;omega
set_option maxRecDepth 100000 in
set_option maxHeartbeats 4000000 in
theorem zzx (A:Option Addr) (ws:List Nat) (c n:Nat) (w:World) (hn:ws.length=n) (hm:n≤9223372036854775807) (hr:RdW w w.heap.size A ws) (ho:∀ x ∈ ws,x<18446744073709551616) :
   Calls Tryz.prog 62 #[.slice A n c] w fun e w'=>zLh ws e w'∧Below w.heap.size w w':=by
 subst hn
 have HR:=hid hr
 have HO:=hid ho
 have HFR:=hid (zlm A ws c ws.length 128 w rfl hm hr ho)
 clear hr ho
 cases hs:zah (ws.length:Int)
 · have HI:=hid (zbw hs)
   have HE:=hid (zno hs)
   clear hs
   go_enter Tryz.func62,Tryz.ntmps62
   go_wp2_with fail
   refine (zay A ws.length c w hm).mono ?_
   rintro e w1 ⟨rfl,rfl⟩
   rw[HI.out]
   go_wp2_with fail
   go_ret2
   exact ⟨zme HE.out (by omega),Below.refl _ _⟩
 · have HI:=hid (zbc hs)
   obtain ⟨hb1,hb2,hb3⟩:=zf5 ws hs
   have HS:=hid hs
   clear hs hb3
   go_enter Tryz.func62,Tryz.ntmps62
   go_wp2_with fail
   refine (zay A ws.length c w hm).mono ?_
   rintro e w1 ⟨rfl,rfl⟩
   rw[HI.out]
   go_wp2_with fail
   refine HFR.out.mono ?_
   rintro e w1 ⟨⟨A1,c1,rfl,hrd,hcl⟩,hB1⟩
   have hz1:=hB1.size
   have hlen:=zgx ws 128
   have H128:Hid (zca ws 128=0→zah (ws.length:Int)=true∧blocks ws 128=some (za5 ws 128)):=hid zDv
   have HNO:Hid (∀ r,zca ws 128=r→r≠0→zae ws=r):=hid (fun _ h h0=>zuv h h0)
   obtain ⟨l,hl⟩:∃ l,za5 ws 128=l:=⟨_,rfl⟩
   rw[hl] at hrd hcl hlen H128 ⊢
   have HRD:=hid hrd
   have HCL:=hid hcl
   obtain ⟨r,hr⟩:∃ r,zca ws 128=r:=⟨_,rfl⟩
   have HER:=hid hr
   rw[hr] at H128 ⊢
   clear hr hrd hcl hl
   by_cases hr0:r=0
   · subst hr0
     have HBL:=hid (H128.out rfl).2
     clear H128 HNO
     go_wp2_with fail
     go_loopw [26] (fun i wr=>∃ k:Nat,k≤l.length∧i=.int .i64 k∧Hid ((l.take k).all (zds ws)=true)∧Below w1.heap.size w1 wr) (fun i _=>l.length - (intOf i).toNat)
     case atStart=>exact ⟨0,Nat.zero_le _,rfl,rfl,Below.refl _ _⟩
     case round =>
      obtain ⟨k,hk,rfl,HAL,hB⟩:=hrel
      have hz:=hB.size
      by_cases hlt:k<l.length
      · obtain ⟨b,off,rfl,hbw,q0,q1,q2,q3,q4,q5⟩:=RdB.at_ (HRD.out.below hB) hlt
        have HTY:=hid (fun h=>zgp HBL.out (by omega) hlt h)
        have HSN:=hid (fun h=>zv7 hlt HAL.out h)
        have HBD:=hid (fun h=>zrx HS.out HBL.out (zzq hlt h))
        obtain ⟨x,hx⟩:∃ x,l[k]=x:=⟨_,rfl⟩
        rw[hx] at q0 q1 q2 q3 q4 q5 HTY HSN HBD
        have HFO:=hid (fun h=>zh4 (ws:=ws) (b:=x) h)
        have HFN:=hid (fun h=>zd3 (ws:=ws) (b:=x) h)
        have hty:tyA x=96+2 * x.typ.toNat:=rfl
        rw[hty] at HFO
        obtain ⟨xa,xs,xk,xt,xm,xn⟩:=x
        dsimp only at q0 q1 q2 q3 q4 q5 HTY HFO
        have hlm:(k:Int)<(l.length:Int):=by omega
        clear hx hty
        have hnew:=Bx.new wr 55 #[.int .i64 xa,.int .i64 xs,.int .i64 xk,.int .i64 xt,.bool xm,.int .u64 (xn:Int)]
        by_cases hk1:xk=1
        · obtain ⟨t0,t8⟩:=HTY.out hk1
          obtain ⟨t,rfl⟩:=Int.eq_ofNat_of_zero_le t0
          have HF:=hid (HFO.out hk1)
          simp only[Int.toNat_natCast] at HF
          subst hk1
          have HC:=hid (fun W (h:RdW W W.heap.size A ws)=>zrk A ws c ws.length t W rfl (by omega) hb1 (by omega) h HO.out)
          have hz1w:=hz1
          have HRW:=hid ((((HR.out.up hB1 hz1).up hB hz).alloc (Nat.le_refl _) (.cells #[.int .i64 xa,.int .i64 xs,.int .i64 1,.int .i64 (t:Int),.bool xm,.int .u64 (xn:Int)] 55)).more (B':=(wr.alloc (.cells #[.int .i64 xa,.int .i64 xs,.int .i64 1,.int .i64 (t:Int),.bool xm,.int .u64 (xn:Int)] 55)).heap.size) (by simp))
          obtain ⟨fx,hfx⟩:∃ fx,wd ws (96+2 * t)=fx:=⟨_,rfl⟩
          obtain ⟨fy,hfy⟩:∃ fy,wd ws (96+2 * t+1)=fy:=⟨_,rfl⟩
          rw[hfx,hfy] at HC HF
          clear hnew hfx hfy HFO HFN HTY
          go_wp2_with fail
          refine (HC.out _ HRW.out).mono ?_
          rintro e w2 ⟨⟨A2,c2,rfl,hrd2,hcl2⟩,hB2⟩
          rw[World.size_alloc] at hB2
          have bx2:=Bx.of_new hB2
          have hb2:=hB.trans ((zan hB2).mono hz)
          obtain ⟨c0,c1',c2',c3,c4,c5,cf,cz⟩:=bx2.c6
          have HB2:=hid hb2
          clear hrd2 hcl2 bx2 hB2 hb2 cf
          obtain ⟨ok,hok⟩:∃ ok,zb7 fx fy=ok:=⟨_,rfl⟩
          obtain ⟨m,hm2⟩:∃ m,(zbd fx fy).length=m:=⟨_,rfl⟩
          have hm8:m≤255:=by
            rw[←hm2];unfold zbd;split
            · rw[zet];have:=Nat.mod_lt fx (show 0<256 by omega);omega
            · simp
          rw[hok,hm2] at HF ⊢
          clear hok hm2
          cases ok
          · have HB:=hid (HBD.out (by rw[HF.out];rfl))
            go_wp2_with fail
            go_ret2
            exact ⟨zme HB.out (by omega),hB1.trans (HB2.out.mono hz1)⟩
          · rw[Bool.true_and] at HF
            have hsz:((za8 m:Nat):Int)=((m:Int)+3) / 2 * 2:=by unfold za8;omega
            rw[hsz] at HF
            by_cases hse:xs=((m:Int)+3) / 2 * 2
            · have hs1:(xs != ((m:Int)+3) / 2 * 2)=false:=by rw[bne_eq_false_iff_eq];exact hse
              have HY:=hid (HSN.out (by rw[HF.out,beq_iff_eq];exact hse))
              clear hse
              go_wp2_with fail
              go_roundw
              case rel=>exact ⟨k+1,by omega,by go_num,HY.out,HB2.out⟩
              case measure=>simp[intOf];omega
            · have hs1:(xs != ((m:Int)+3) / 2 * 2)=true:=by rw[bne_iff_ne];exact hse
              have HB:=hid (HBD.out (by rw[HF.out,beq_eq_false_iff_ne];exact hse))
              clear hse
              go_wp2_with fail
              go_ret2
              exact ⟨zme HB.out (by omega),hB1.trans (HB2.out.mono hz1)⟩
        · have hk2:(xk != 1)=true:=by rw[bne_iff_ne];exact hk1
          have HY:=hid (HSN.out (HFN.out hk1))
          clear hk1 hnew
          go_wp2_with fail
          go_roundw
          case rel=>exact ⟨k+1,by omega,by go_num,HY.out,hB.alloc hz _⟩
          case measure=>simp[intOf];omega
      · have HP:=hid (ze7 HS.out HBL.out (by have:=HAL.out;rwa [List.take_of_length_le (by omega)] at this))
        go_wp2_with fail
        go_ret2
        exact ⟨⟨A1,c1,by rw[HP.out.1,HP.out.2];rfl,by rw[HP.out.2];exact HRD.out.up hB hz,by rw[HP.out.2];exact HCL.out⟩,hB1.trans (hB.mono hz1)⟩
   · have hn1:(r != 0)=true:=by rw[bne_iff_ne];exact hr0
     have HN:=hid (HNO.out r HER.out hr0)
     have HR0:=hid hr0
     clear hr0 H128 HNO
     go_wp2_with fail
     go_ret2
     exact ⟨zme HN.out HR0.out,hB1⟩
end Go.Proofs.YtpcajamacpbjcaaGreat
namespace Go.Proofs.YtpcajamacpbjcaaGreat
open Lib (hid)
open Go.RowKit
set_option maxRecDepth 100000 in
set_option maxHeartbeats 1000000 in
theorem zmd (A:Option Addr) (ws:List Nat) (c n:Nat) (w:World) (hn:ws.length=n) (hm:n≤9223372036854775807) (hr:RdW w w.heap.size A ws) (ho:∀ x ∈ ws,x<18446744073709551616) :
  Calls Tryz.prog 162 #[.slice A n c] w fun e w'=>e=.returned (.int .i64 (zae ws))∧Below w.heap.size w w':=by
 have HC:=hid (zzx A ws c n w hn hm hr ho)
 clear hr ho hn
 obtain ⟨r,hr⟩:∃ r,zae ws=r:=⟨_,rfl⟩
 have HE:=hid hr
 rw[hr]
 clear hr
 go_enter Tryz.func162,Tryz.ntmps162
 go_wp2_with fail
 refine HC.out.mono ?_
 rintro e w1 ⟨⟨A1,c1,rfl,-,-⟩,hB1⟩
 go_wp2_with fail
 go_ret
 exact ⟨by rw[←HE.out];rfl,hB1⟩
theorem zqy {l:List Bk} {k:Nat} (hk:k<l.length):zd8 (l.take (k+1))=zd8 (l.take k)++(if l[k].mark=true then [l[k].at_] else []):=by
 rw[List.take_succ_eq_append_getElem hk]
 unfold zd8
 rw[List.filter_append,List.map_append]
 cases h:l[k].mark <;> simp[h]
theorem zE0 (l:List Bk):(zd8 l).length≤l.length:=by unfold zd8;rw[List.length_map];exact List.length_filter_le _ _
theorem zib (ws:List Nat):(zab ws).length≤1024:=by
 unfold zab
 split
 · rename_i h
   obtain ⟨h1,l,h2,-⟩:=zam h
   have hb:=(zad _).1 h1
   have:=(zbs (by omega) _ _ h2 (by omega) (by omega) (by omega)).1
   rw[h2];simp only[Option.getD_some];omega
 · simp
theorem zir {H n:Nat} {e:TypeId} {sz:Nat} {v:Value} {w':World} {xs:List Value} (h:w'.ownsRow H e sz v n xs):∃ A c,v=.slice A n c∧n≤c∧Rd w' w'.heap.size A xs:=by
 have hc:∃ A c,v=.slice A n c∧n≤c:=by
  rcases h.2 with ⟨rfl,hnil⟩|⟨g,cap,cur,rfl,_,_,hle,_⟩
  · have h0:n=0∨0<n:=by omega
    exact ⟨none,0,by
     have:=zbb h
     obtain ⟨A,c,e⟩:=this
     injection e with _ e2 _
     rw[←e2],by
     have:=zbb h
     obtain ⟨A,c,e⟩:=this
     injection e with _ e2 _
     omega⟩
  · exact ⟨_,_,rfl,hle⟩
 obtain ⟨A,c,rfl,hle⟩:=hc
 exact ⟨A,c,rfl,hle,Rd.of_own h⟩
end Go.Proofs.YtpcajamacpbjcaaGreat
namespace Go.Proofs.YtpcajamacpbjcaaGreat
open Lib (hid)
open Go.RowKit
theorem zwd (ws:List Nat) (xa xs xk:Int) (t:Nat) (xm:Bool) (xn:Nat):zc2 ws ⟨xa,xs,xk,(t:Int),xm,xn⟩=(zb7 (wd ws (96+2 * t)) (wd ws (96+2 * t+1)) && xs == ((za8 (zbd (wd ws (96+2 * t)) (wd ws (96+2 * t+1))).length:Nat):Int)):=by
 have h:=zh4 (ws:=ws) (b:=⟨xa,xs,1,(t:Int),xm,xn⟩) rfl
 unfold zds at h
 exact h
theorem znp (a b:Nat):zcv (zbd a b)=0:=by
 unfold zbd
 split
 · rename_i h
   unfold zb7 at h
   simp only[Bool.and_eq_true,decide_eq_true_eq] at h
   exact zh8 (by rw[zet];exact h.1.1) h.1.2
 · rfl
theorem zjm (a b:Nat):(zbd a b).length≤8:=(zja (znp a b)).1
set_option maxRecDepth 100000 in
set_option maxHeartbeats 2000000 in
theorem zDf (A:Option Addr) (ws:List Nat) (c n t:Nat) (xa xs xk:Int) (xm:Bool) (xn:Nat) (w:World) (hn:ws.length=n) (hm:n≤1000000) (h2:256≤n) (ht:t<8) (hr:RdW w w.heap.size A ws) (ho:∀ x ∈ ws,x<18446744073709551616) :
   Calls Tryz.prog 216 #[.slice A n c,.agg #[.int .i64 xa,.int .i64 xs,.int .i64 xk,.int .i64 (t:Int),.bool xm,.int .u64 (xn:Int)]] w fun e w'=>e=.returned (.bool (zc2 ws ⟨xa,xs,xk,(t:Int),xm,xn⟩))∧Below w.heap.size w w':=by
 subst hn
 have hx:=ze6 ho (96+2 * t)
 have hy:=ze6 ho (96+2 * t+1)
 have HTE:=hid (zwd ws xa xs xk t xm xn)
 have HC:=hid (fun W=>zqh (wd ws (96+2 * t)) (wd ws (96+2 * t+1)) W hx hy)
 have HK:=hid (zlz (wd ws (96+2 * t)) (wd ws (96+2 * t+1)))
 have hmx:=zjm (wd ws (96+2 * t)) (wd ws (96+2 * t+1))
 have HKN:=hid (znp (wd ws (96+2 * t)) (wd ws (96+2 * t+1)))
 obtain ⟨b,off,rfl,hb,h0⟩:=RdW.at_ hr (show 96+2 * t<ws.length by omega)
 obtain ⟨b',off',e',-,h1⟩:=RdW.at_ hr (show 96+2 * t+1<ws.length by omega)
 cases e'
 rw[←zcb] at h0 h1
 obtain ⟨x,hx2⟩:∃ x,wd ws (96+2 * t)=x:=⟨_,rfl⟩
 obtain ⟨y,hy2⟩:∃ y,wd ws (96+2 * t+1)=y:=⟨_,rfl⟩
 obtain ⟨q,hq2⟩:∃ q,zc2 ws ⟨xa,xs,xk,(t:Int),xm,xn⟩=q:=⟨_,rfl⟩
 rw[hx2] at h0 HC HK HTE HKN hmx
 rw[hy2] at h1 HC HK HTE HKN hmx
 rw[hq2] at HTE ⊢
 have t0:(0:Int)≤(t:Int):=by omega
 have t8:(t:Int)<8:=by omega
 have w1:IntKind.i64.wrap (2 * (t:Int))=2 * (t:Int):=IntWalk.i64_in _ (by omega)
 have w2:IntKind.i64.wrap (96+2 * (t:Int))=96+2 * (t:Int):=IntWalk.i64_in _ (by omega)
 have w3:IntKind.i64.wrap (96+2 * (t:Int)+1)=96+2 * (t:Int)+1:=IntWalk.i64_in _ (by omega)
 have i1:(0:Int)≤96+2 * (t:Int):=by omega
 have i2:(96:Int)+2 * (t:Int)<(ws.length:Int):=by omega
 have i3:(0:Int)≤96+2 * (t:Int)+1:=by omega
 have i4:(96:Int)+2 * (t:Int)+1<(ws.length:Int):=by omega
 have n1:((96:Int)+2 * (t:Int)).toNat=96+2 * t:=by omega
 have n2:((96:Int)+2 * (t:Int)+1).toNat=96+2 * t+1:=by omega
 obtain ⟨cs,hcs⟩:∃ cs,cs=#[Value.int .i64 xa,.int .i64 xs,.int .i64 xk,.int .i64 (t:Int),.bool xm,.int .u64 (xn:Int)]:=⟨_,rfl⟩
 have bx:=Bx.new w 55 #[.int .i64 xa,.int .i64 xs,.int .i64 xk,.int .i64 (t:Int),.bool xm,.int .u64 (xn:Int)]
 have hbw:=(Below.refl w.heap.size w).alloc (Nat.le_refl _) (.cells #[.int .i64 xa,.int .i64 xs,.int .i64 xk,.int .i64 (t:Int),.bool xm,.int .u64 (xn:Int)] 55)
 replace h0:=(hbw.cell (p:=⟨b,off+(96+2 * t),none⟩) hb).trans h0
 replace h1:=(hbw.cell (p:=⟨b,off+(96+2 * t+1),none⟩) hb).trans h1
 have hsw:(w.alloc (.cells #[.int .i64 xa,.int .i64 xs,.int .i64 xk,.int .i64 (t:Int),.bool xm,.int .u64 (xn:Int)] 55)).heap.size=w.heap.size+1:=by simp
 clear hr hx hy hx2 hy2 ho ht hq2 hcs
 go_enter Tryz.func216,Tryz.ntmps216
 go_wp2_with fail
 obtain ⟨W0,hW0⟩:∃ W0,w.alloc (.cells #[.int .i64 xa,.int .i64 xs,.int .i64 xk,.int .i64 (t:Int),.bool xm,.int .u64 (xn:Int)] 55)=W0:=⟨_,rfl⟩
 rw[hW0] at h0 h1 bx hbw hsw ⊢
 clear hW0
 have b3:W0.cell? ⟨w.heap.size,3,none⟩=some (.int .i64 (t:Int)):=bx.cell 3
 have hbb:b<W0.heap.size:=by omega
 have hgg:w.heap.size<W0.heap.size:=by omega
 have BX:=hid bx
 have HBW:=hid hbw
 clear bx hbw hsw
 go_region_held3 (fun X:World=>X.cell? ⟨b,off+(96+2 * t),none⟩=some (.int .u64 (x:Int))∧X.cell? ⟨b,off+(96+2 * t+1),none⟩=some (.int .u64 (y:Int))∧X.cell? ⟨w.heap.size,3,none⟩=some (.int .i64 (t:Int))) (go_keep)
   (first | (go_at_call 117;refine (HC.out _).mono ?_;rintro e w5 ⟨⟨A1,c1,rfl,hrd,hcl⟩,hB5⟩;have m0:=(hB5.cell (p:=⟨b,off+(96+2 * t),none⟩) hbb).trans h0;have m1:=(hB5.cell (p:=⟨b,off+(96+2 * t+1),none⟩) hbb).trans h1;have m2:=(hB5.cell (p:=⟨w.heap.size,3,none⟩) hgg).trans b3;have HRD:=hid hrd;have HB5:=hid hB5;clear hrd hcl))
 have hsz:=ztc A1 (zbd x y) c1 (zbd x y).length w5.heap.size w5 rfl (by omega) HRD.out
 have hks:kSz (zbd x y)=za8 (zbd x y).length:=by simp[kSz,HKN.out]
 rw[HKN.out,hks] at hsz
 have HSZ:=hid hsz
 have hob:za8 (zbd x y).length≤10:=by unfold za8;omega
 have c1x:w5.cell? ⟨w.heap.size,1,none⟩=some (.int .i64 xs):=(HB5.out.cell (p:=⟨w.heap.size,1,none⟩) hgg).trans (BX.out.cell 1)
 obtain ⟨m,hm2⟩:∃ m,(zbd x y).length=m:=⟨_,rfl⟩
 rw[hm2] at HTE HSZ hmx hob ⊢
 obtain ⟨z,hz⟩:∃ z,za8 m=z:=⟨_,rfl⟩
 rw[hz] at HSZ HTE hob
 have HKR:Hid (zef x y=if zb7 x y=true then 0 else 50):=hid rfl
 obtain ⟨r,hr⟩:∃ r,zef x y=r:=⟨_,rfl⟩
 obtain ⟨ok,hok⟩:∃ ok,zb7 x y=ok:=⟨_,rfl⟩
 rw[hr] at HKR HK ⊢
 rw[hok] at HKR HTE HK
 clear hr hok hsz hks hm2 hz m0 m1 m2 h0 h1 b3
 cases ok
 · obtain rfl:r=50:=HKR.out
   go_wp2_with fail
   refine HSZ.out.mono ?_
   rintro e w6 ⟨rfl,rfl⟩
   go_wp2_with fail
   go_ret
   exact ⟨by rw[HTE.out];rfl,HBW.out.trans ((Below.refl _ _).drew.trans (HB5.out.mono (by show _≤W0.heap.size;omega)))⟩
 · obtain rfl:r=0:=HKR.out
   rw[Bool.true_and] at HTE
   go_wp2_with fail
   refine HSZ.out.mono ?_
   rintro e w6 ⟨rfl,rfl⟩
   go_wp2_with fail
   go_ret
   exact ⟨by rw[HTE.out];rfl,HBW.out.trans ((Below.refl _ _).drew.trans (HB5.out.mono (by show _≤W0.heap.size;omega)))⟩
end Go.Proofs.YtpcajamacpbjcaaGreat
namespace Go.Proofs.YtpcajamacpbjcaaGreat
open Lib (hid)
open Go.RowKit
theorem zdn:(Tryz.prog.info? 89).map (fun i=>(i.zero,i.size,i.bytes))=some (some (.agg #[.int .i64 0,.int .u64 0]),2,16):=by kernel_rfl
def za0 (ws:List Nat):List En:=if zae ws=0 then za2 (zab ws) 128 else []
theorem zfi {ws:List Nat} (h:zae ws=0):zca ws 128=0∧za5 ws 128=zab ws∧zd4 (zab ws) 128=0∧blocks ws 128=some (zab ws):=by
 obtain ⟨h1,l,h2,h3,h4⟩:=zam h
 obtain ⟨g1,g2⟩:=zci h1 (zgr h1) (l:=l) h2
 have hb:=(zad _).1 h1
 refine ⟨g1,by rw[g2,h4],?_,by rw[h2,h4]⟩
 rw[h4]
 exact zjo (i:=128) (by omega) h2 (by omega) (by omega) (by omega) (s:=128) (by omega) (by omega) (by omega)
theorem zyl {l:List Bk} {k:Nat} (hk:k<l.length) (s:Int):za2 (l.take (k+1)) s=za2 (l.take k) s++(if l[k].kind=1∧l[k].next≠zbp l[k] (zat (l.take k) s) then [⟨l[k].at_+1,zbp l[k] (zat (l.take k) s)⟩] else []):=by
 rw[List.take_succ_eq_append_getElem hk,zrm]
 simp[za2]
theorem zmu (l:List Bk):∀ s,(za2 l s).length≤l.length:=by
 induction l with
 | nil=>intro s;exact Nat.le_refl _
 | cons b l ih =>
  intro s
  have:=ih (zeo b s)
  simp only[za2,List.length_append,List.length_cons]
  split <;> simp <;> omega
theorem zvk {l:List Bk} {s:Int} (h:zd4 l s=0) {k:Nat} (hk:k<l.length):∃ h2:k<(zic l s).length,(zic l s)[k]=((zbp l[k] (zat (l.take k) s):Nat):Int)∧zbp l[k] (zat (l.take k) s)≤2048:=by
 have e1:zic l s=zbl l s:=by simp[zic,h]
 have hl:k<(zic l s).length:=by rw[e1,zc4];exact hk
 refine ⟨hl,?_,?_⟩
 · have:=zs9 (l:=l) (s:=s) hk
   rw[zbt l k hk,←e1,List.getElem?_eq_getElem hl] at this
   rw[Option.some.inj this]
   obtain ⟨h1,h2,h3,_⟩:=zei h
   have hb:=zj0 h1 (Nat.le_of_lt hk) h2 h3
   unfold zbp
   split <;> omega
 · obtain ⟨h1,h2,h3,_⟩:=zei h
   have hb:=zj0 h1 (Nat.le_of_lt hk) h2 h3
   unfold zbp
   split <;> omega
theorem zwc {l:List Bk} {s:Int} (h:zd4 l s=0) {k:Nat} (hk:k<l.length):128≤l[k].at_∧l[k].at_≤2048∧2≤l[k].size∧l[k].size≤2048:=by
 obtain ⟨h1,_⟩:=zei h
 have:=(zd7 _).1 (zdr (zc5 h1).2 hk).1
 rw[zbt l k hk] at this
 omega
set_option maxRecDepth 100000 in
set_option maxHeartbeats 4000000 in
theorem zsz (A:Option Addr) (ws:List Nat) (c n:Nat) (w:World) (hn:ws.length=n) (hm:n≤9223372036854775807) (hr:RdW w w.heap.size A ws) (ho:∀ x ∈ ws,x<18446744073709551616) :
   Calls Tryz.prog 143 #[.slice A n c] w fun e w'=>zhc w.heap.size (zae ws) (za0 ws) e w'∧Below w.heap.size w w':=by
 have HC:=hid (zmd A ws c n w hn hm hr ho)
 have HF:=hid (fun W (h:RdW W W.heap.size A ws)=>zlm A ws c n 128 W hn hm h ho)
 have HR:=hid hr
 have HFR:Hid (zae ws=0→zca ws 128=0∧za5 ws 128=zab ws∧zd4 (zab ws) 128=0∧blocks ws 128=some (zab ws)):=hid zfi
 have hlen:=zib ws
 clear hr ho hn
 by_cases h0:zae ws=0
 · obtain ⟨g1,g2,g3,g4⟩:=HFR.out h0
   have HW:=hid (show za0 ws=za2 (zab ws) 128 by simp[za0,h0])
   have HE:=hid h0
   rw[h0] at HC
   unfold zph at HF
   rw[g1,g2] at HF
   obtain ⟨l,hl⟩:∃ l,zab ws=l:=⟨_,rfl⟩
   rw[hl] at HF hlen HW g3
   have HG3:=hid g3
   have HPL:=hid (fun (A2:Option Addr) (c2:Nat) (W:World) (h:RdB W W.heap.size A2 l)=>zvg A2 l c2 l.length 128 W rfl (by omega) h (by omega))
   unfold zA6 at HPL
   rw[g3] at HPL
   clear h0 g1 g2 g3 g4 hl HFR
   obtain ⟨i0,hi,hz0,hz1,hz2⟩:=info_parts zdn
   have HI:=hid hi
   have HZ0:=hid hz0
   have HZ1:=hid hz1
   have HZ2:=hid hz2
   clear hi hz0 hz1 hz2
   go_enter Tryz.func143,Tryz.ntmps143
   go_wp2_with fail
   refine HC.out.mono ?_
   rintro e w1 ⟨rfl,hB1⟩
   have hz1:=hB1.size
   go_wp2_with fail
   refine (HF.out _ (HR.out.up hB1 hz1)).mono ?_
   rintro e w2 ⟨⟨A1,c1,rfl,hrd,-⟩,hB2⟩
   have hb2:=hB1.trans (hB2.mono hz1)
   have hz2:=hb2.size
   have HRD:=hid hrd
   clear hrd
   go_wp2_with fail
   refine (HPL.out A1 c1 _ HRD.out).mono ?_
   rintro e w3 ⟨⟨A2,c2,rfl,hrp,-⟩,hB3⟩
   have hb3:=hb2.trans (hB3.mono hz2)
   have hz3:=hb3.size
   have HRP:=hid hrp
   have HRD3:=hid (HRD.out.up hB3 hB3.size)
   clear hrp HRD
   obtain ⟨pl,hpl⟩:∃ pl,zic l 128=pl:=⟨_,rfl⟩
   have HPE:=hid hpl
   rw[hpl] at HRP ⊢
   have hpll:pl.length=l.length:=by rw[←hpl];simp[zic,HG3.out,zc4]
   have HPA:=hid (fun k (hk:k<l.length)=>zvk HG3.out hk)
   rw[hpl] at HPA
   have HPL2:=hid hpll
   rw[hpll]
   clear hpl hpll
   go_wp2_with fail
   go_loopw [9,30] (fun v i wr=>∃ k:Nat,k≤l.length∧i=.int .i64 k∧wr.ownsRow w3.heap.size 89 2 v (za2 (l.take k) 128).length ((za2 (l.take k) 128).flatMap En.cells)∧Below w3.heap.size w3 wr) (fun _ i _=>l.length - (intOf i).toNat)
   case atStart=>exact ⟨0,Nat.zero_le _,rfl,World.ownsRow_nil _ _ _ _,Below.refl _ _⟩
   case round =>
    obtain ⟨k,hk,rfl,hown,hB⟩:=hrel
    have hz:=hB.size
    by_cases hlt:k<l.length
    · obtain ⟨b,off,rfl,hbw,q0,q1,q2,q3,q4,q5⟩:=RdB.at_ (HRD3.out.below hB) hlt
      obtain ⟨hkp,hp1,hp2⟩:=HPA.out k hlt
      obtain ⟨b2,off2,rfl,hbw2,p0⟩:=RdI.at_ (HRP.out.below hB) hkp
      rw[hp1] at p0
      have HSN:=hid (zyl hlt 128)
      have hml:=zmu (l.take k) 128
      rw[List.length_take] at hml
      have hbd:=zwc HG3.out hlt
      obtain ⟨m,hm2⟩:∃ m,za2 (l.take k) 128=m:=⟨_,rfl⟩
      rw[hm2] at hown HSN hml
      obtain ⟨v,hv⟩:∃ v,zbp l[k] (zat (l.take k) 128)=v:=⟨_,rfl⟩
      rw[hv] at hp2 p0 HSN
      obtain ⟨x,hx⟩:∃ x,l[k]=x:=⟨_,rfl⟩
      rw[hx] at q0 q1 q2 q3 q4 q5 HSN hbd
      obtain ⟨xa,xs,xk,xt,xm,xn⟩:=x
      dsimp only at q0 q1 q2 q3 q4 q5 HSN hbd
      have hlm:(k:Int)<(l.length:Int):=by omega
      have hml2:m.length≤1024:=by omega
      have hbw':b2<wr.heap.size:=by omega
      have p0':=(World.cell?_alloc_lt wr (.cells #[.int .i64 xa,.int .i64 xs,.int .i64 xk,.int .i64 xt,.bool xm,.int .u64 (xn:Int)] 55) ⟨b2,off2+k,none⟩ hbw').trans p0
      have hv2:(v:Int)≤2048:=by omega
      have hv0:(0:Int)≤(v:Int):=by omega
      clear hx hm2 hml hv hp1
      by_cases hk1:xk=1
      · subst hk1
        by_cases hnv:xn=v
        · have hnb:((xn:Int) != (v:Int))=false:=by rw[bne_eq_false_iff_eq];omega
          have HS2:=hid (show za2 (l.take (k+1)) 128=m by rw[HSN.out,if_neg (fun h=>h.2 hnv)];simp)
          clear HSN hnv
          go_wp2_with fail
          go_roundw
          case rel=>exact ⟨k+1,by omega,by go_num,by rw[HS2.out];exact hown.alloc _,hB.alloc hz _⟩
          case measure=>simp[intOf];omega
        · have hnb:((xn:Int) != (v:Int))=true:=by rw[bne_iff_ne];omega
          have HS2:=hid (show za2 (l.take (k+1)) 128=m++[⟨xa+1,v⟩] by rw[HSN.out,if_pos ⟨rfl,hnv⟩])
          clear HSN hnv
          go_wp2_with (at_builtin;refine wpList_append_own _ rfl _ _ 26 rfl w3.heap.size 89 i0 _ 2 16 Tryz.underlying26 HI.out HZ0.out HZ1.out HZ2.out rfl (by decide) _ _ _ rfl ((hown.alloc _).alloc _) ⟨_,0,none⟩ 1 1 [.int .i64 (xa+1),.int .u64 (v:Int)] rfl rfl (zk4 _ _ _ (World.size_alloc _ _)) (by simp[Value.oneCell']) (by unfold maxLen;omega) (by omega) (by simp;omega) ?_;intro v1 w2 hown1 hg1 _;have hB2:=zaw (hB.alloc hz (.cells #[.int .i64 xa,.int .i64 xs,.int .i64 1,.int .i64 xt,.bool xm,.int .u64 (xn:Int)] 55)) (by simp;omega) (hown.alloc _) hg1)
          go_roundw
          case rel=>exact ⟨k+1,by omega,by go_num,by rw[HS2.out,List.length_append,zb6];exact hown1,hB2⟩
          case measure=>simp[intOf];omega
      · have hk2:(xk == 1)=false:=by rw[beq_eq_false_iff_ne];exact hk1
        have HS2:=hid (show za2 (l.take (k+1)) 128=m by rw[HSN.out,if_neg (fun h=>hk1 h.1)];simp)
        clear HSN hk1
        go_wp2_with fail
        go_roundw
        case rel=>exact ⟨k+1,by omega,by go_num,by rw[HS2.out];exact hown.alloc _,hB.alloc hz _⟩
        case measure=>simp[intOf];omega
    · rw[List.take_of_length_le (by omega)] at hown
      obtain ⟨A4,c4,rfl⟩:=zbb hown
      have HOW:=hid (zbf hown hb3.size)
      clear hown
      go_wp2_with fail
      go_ret2
      exact ⟨⟨A4,c4,by rw[HW.out,HE.out];rfl,by rw[HW.out];exact HOW.out⟩,hb3.trans (hB.mono hz3)⟩
 · have hn1:(zae ws != 0)=true:=by rw[bne_iff_ne];exact h0
   have HW:=hid (show za0 ws=[] by simp[za0,h0])
   obtain ⟨r,hr⟩:∃ r,zae ws=r:=⟨_,rfl⟩
   have HE:=hid hr
   rw[hr] at HC hn1
   clear h0 hr HFR
   go_enter Tryz.func143,Tryz.ntmps143
   go_wp2_with fail
   refine HC.out.mono ?_
   rintro e w1 ⟨rfl,hB1⟩
   go_wp2_with fail
   go_ret2
   exact ⟨zbv HE.out HW.out,hB1⟩
end Go.Proofs.YtpcajamacpbjcaaGreat
