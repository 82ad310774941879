/- Texts laid together: CoW CoE Form Al35. -/
import Derived.Test.YtpcajamacpbjcaaGreatZKLy2
import Derived.Test.YtpcajamacpbjcaaGreatZKCp2
import Derived.Test.YtpcajamacpbjcaaGreatZKNx
import Derived.Test.YtpcajamacpbjcaaGreatZKStg1
import Derived.Test.YtpcajamacpbjcaaGreatZKEff
import Derived.Test.YtpcajamacpbjcaaGreatZKSup
import Derived.Laws.CopyOwn
import Derived.Test.YtpcajamacpbjcaaGreatZKRun
import Derived.Test.YtpcajamacpbjcaaGreatZKStg3
import Derived.Test.YtpcajamacpbjcaaGreatZSameW
import Derived.Test.YtpcajamacpbjcaaGreatZKImage
import Derived.Test.YtpcajamacpbjcaaGreatZKR19
namespace Go.Proofs.YtpcajamacpbjcaaGreat
open Lib (hid)
open Go.RowKit
noncomputable def coL (ws:List Nat):List (List En):=if zcz ws=0 then [⟨16,1⟩] :: (rsE (zha ws)).2.1 else []
theorem zni {ws:List Nat} (h:zcz ws=0):zah (ws.length:Int)=true∧lay ws=true:=by
 unfold zcz at h
 cases hs:zah (ws.length:Int)
 · rw[hs] at h;cases h
 · rw[hs,if_pos rfl] at h
   cases hl:lay ws
   · rw[hl] at h;cases h
   · exact ⟨rfl,rfl⟩
theorem zqv {ws:List Nat} {t:Nat} (h:Lay ws t):zcz ws=0:=by
 unfold zcz
 rw[zpk h.ty,h.lay];rfl
theorem Lay.all {ws:List Nat} {t:Nat} (h:Lay ws t) (ho:∀ v ∈ ws,v<18446744073709551616):zgv (zha ws)=(0,(rsE (zha ws)).2.1,cpZ ws):=by
 unfold zgv
 rw[if_pos h.first.2.1]
 have:=(h.run ho).all
 rw[this]
 rfl
theorem zJ3 {ws:List Nat} {t:Nat} (h:Lay ws t) (ho:∀ v ∈ ws,v<18446744073709551616):(cpZ ws).length=ws.length:=(h.desc ho).1.len
set_option maxRecDepth 100000 in
set_option maxHeartbeats 1000000 in
theorem zAc (A:Option Addr) (ws:List Nat) (c n:Nat) (w:World) (hn:ws.length=n) (hm:n≤9223372036854775807) (hc:n≤c) (hr:RdW w w.heap.size A ws) (ho:∀ x ∈ ws,x<18446744073709551616) :
   Calls Tryz.prog 14 #[.slice A n c] w fun e w'=>zhc w.heap.size (zcz ws) (if zcz ws=0 then [⟨16,1⟩] else []) e w'∧Below w.heap.size w w':=by
 have HC:=hid (zDx A ws c n w hn hm hc hr ho)
 obtain ⟨r,hr2⟩:∃ r,zcz ws=r:=⟨_,rfl⟩
 rw[hr2] at HC ⊢
 clear hr ho hc hm hn hr2
 by_cases h0:r=0
 · subst h0
   rw[if_pos rfl]
   go_enter Tryz.func14,Tryz.ntmps14
   go_wp2_with fail
   refine HC.out.mono ?_
   rintro e w1 ⟨rfl,hB1⟩
   have HO:=hid (zdy (n:=1) (sz:=2) w1 89 #[.int .i64 16,.int .u64 1] (Nat.le_refl _) (by rfl) (by unfold maxLen;omega))
   have HB:=hid (hB1.alloc hB1.size (.cells #[.int .i64 16,.int .u64 1] 89))
   have hz:=hB1.size
   go_wp2_with fail
   go_ret2
   exact ⟨⟨some ⟨w1.heap.size,0,none⟩,1,rfl,zbf HO.out hz⟩,HB.out⟩
 · rw[if_neg h0]
   have e1:(r != 0)=true:=by rw[bne_iff_ne];exact h0
   clear h0
   go_enter Tryz.func14,Tryz.ntmps14
   go_wp2_with fail
   refine HC.out.mono ?_
   rintro e w1 ⟨rfl,hB1⟩
   go_wp2_with fail
   go_ret2
   exact ⟨zbv rfl rfl,hB1⟩
def CoRes (ws:List Nat) (H:Nat) (e:Ending) (w':World):Prop:=∃ (L:List Ch) (B:Option Addr) (d:Nat) (vx:Value),e=.returned (.tuple #[.slice B L.length d,vx,.int .i64 (zcz ws)])∧L.map Ch.l=coL ws∧RdC w' w'.heap.size B L∧(∀ x ∈ L,x.l.length≤32∧RdE w' w'.heap.size x.A x.l) ∧
 (zcz ws=0→∃ g c,vx=.slice (some ⟨g,0,none⟩) ws.length c∧w'.ownsRow H 53 1 (.slice (some ⟨g,0,none⟩) ws.length c) ws.length ((cpZ ws).flatMap zaj))∧(zcz ws≠0→vx=.slice none 0 0)
theorem Ch.one:∀ x:Ch,∀ u ∈ x.cells,u.oneCell'=true:=fun x u hu=>by
 unfold Ch.cells at hu
 rw[List.mem_singleton] at hu
 subst hu;rfl
set_option maxRecDepth 100000 in
set_option maxHeartbeats 4000000 in
theorem ztv (A:Option Addr) (ws:List Nat) (c n:Nat) (w:World) (hn:ws.length=n) (hm:n≤9223372036854775807) (hc:n≤c) (hr:RdW w w.heap.size A ws) (ho:∀ x ∈ ws,x<18446744073709551616) :
   Calls Tryz.prog 50 #[.slice A n c] w fun e w'=>CoRes ws w.heap.size e w'∧Below w.heap.size w w':=by
 subst hn
 have HS:=hid (zAc A ws c ws.length w rfl hm hc hr ho)
 have HR:=hid hr
 by_cases h0:zcz ws=0
 · obtain ⟨hs,hl⟩:=zni h0
   obtain ⟨t,hL⟩:=zq3 hl
   rw[h0,if_pos rfl] at HS
   unfold zhc at HS
   have hlen:=(zad _).1 hs
   have HPT:=hid (fun B d W (h:RdW W W.heap.size A ws) (h2:RdE W W.heap.size B [⟨16,1⟩])=>zDk A B ws [⟨16,1⟩] c d ws.length 1 W.heap.size W rfl rfl hs (by omega) (fun e he=>by rw[List.mem_singleton] at he;subst he;exact ⟨by decide,by dsimp only;omega⟩) h h2 (Nat.le_refl _))
   unfold OwnV at HPT
   rw[show zag ws [⟨16,1⟩]=zha ws from rfl,zhx] at HPT
   have HRA:=hid (fun B d W (hd:ws.length≤d) (h:RdW W W.heap.size B (zha ws))=>rAll_c B (zha ws) d ws.length W (zhx ws) hm hd h (zzb ho))
   unfold zKq at HRA
   rw[hL.all ho,zhx] at HRA
   have hLn:(rsE (zha ws)).2.1.length≤3000:=by
     have h1:=zvi (zzb ho) (hL.all ho)
     have:=h1.2.2.1
     rw[zhx] at this
     omega
   have HSM:Hid (∀ E ∈ (rsE (zha ws)).2.1,E.length≤32):=hid fun E hE=>by
     obtain ⟨i,hi,rfl⟩:=List.getElem_of_mem hE
     exact ((zvi (zzb ho) (hL.all ho)).2.2.2.2.2 i hi).le
   have HV:Hid (coL ws=[⟨16,1⟩] :: (rsE (zha ws)).2.1):=hid (by unfold coL;rw[if_pos h0])
   have H0:=hid h0
   obtain ⟨outs,hO⟩:∃ outs,(rsE (zha ws)).2.1=outs:=⟨_,rfl⟩
   rw[hO] at HRA HV hLn HSM
   obtain ⟨i0,hi,hz0,hz1,hz2⟩:=info_parts zCl
   have HI:=hid hi
   have HZ0:=hid hz0
   have HZ1:=hid hz1
   have HZ2:=hid hz2
   clear hi hz0 hz1 hz2
   clear hr ho h0 hs hl hL hc hO
   go_enter Tryz.func50,Tryz.ntmps50
   go_wp2_with fail
   refine HS.out.mono ?_
   rintro e w1 ⟨⟨A1,c1,rfl,hown1⟩,hB1⟩
   have HB1:=hid hB1
   have HE1:=hid (show RdE w1 w1.heap.size A1 [⟨16,1⟩] from Rd.of_own hown1)
   clear hB1 hown1
   go_wp2_with fail
   refine (HPT.out _ _ _ (HR.out.up HB1.out HB1.out.size) HE1.out).mono ?_
   rintro e w2 ⟨g2,c2,rfl,hown2,hB2⟩
   have HB2:=hid (HB1.out.trans (hB2.mono HB1.out.size))
   have HE2:=hid (HE1.out.up hB2 hB2.size)
   have HW2:=hid (show RdW w2 w2.heap.size _ (zha ws) from Rd.of_own hown2)
   have hcap:=zfo hown2
   clear hB2 hown2
   go_wp2_with fail
   refine (HRA.out _ _ _ hcap HW2.out).mono ?_
   rintro e w3 ⟨⟨L,B,d,vx,rfl,hL,hC,hv,-⟩,hB3⟩
   obtain ⟨g3,c3,rfl,-,hx3⟩:=hv trivial
   have HB3:=hid (HB2.out.trans (hB3.mono HB2.out.size))
   have HE3:=hid (HE2.out.up hB3 hB3.size)
   have HX3:=hid (zbf hx3 HB2.out.size)
   have HC3:=hid (show RdC w3 w3.heap.size B L from Rd.of_own hC.1)
   have HC4:=hid (fun x hx=>show RdE w3 w3.heap.size x.A x.l from Rd.of_own (hC.2 x hx))
   have hll:L.length≤3000:=by rw[←hL,List.length_map] at hLn;exact hLn
   have HLL:=hid hL
   clear hB3 hx3 hC hL hv hLn hcap
   go_wp2_with (at_builtin;refine zb2 _ (by rfl) _ _ 34 rfl w3.heap.size 26 i0 _ 1 24 Tryz.underlying34 HI.out HZ0.out HZ1.out HZ2.out rfl (by decide) (.slice (some ⟨w3.heap.size,0,none⟩) 1 1) 1 [.slice A1 1 c1] (by rfl) (zdy (n:=1) (sz:=1) w3 26 #[.slice A1 1 c1] (Nat.le_refl _) (by rfl) (by unfold maxLen;omega)) w3.heap.size B L.length d (L.flatMap Ch.cells) (by rfl) (by rw[zcw Ch.cells 1 Ch.len]) (Rd.alloc HC3.out (Nat.le_refl _) _) (zd2 Ch.one _) (by unfold maxLen;omega) (by omega) (by simp) ?_;intro v1 wa hown1 hg1;have hBa:=zcm ((Below.refl w3.heap.size w3).alloc (Nat.le_refl _) _) (by simp) (zdy (n:=1) (sz:=1) w3 26 #[.slice A1 1 c1] (Nat.le_refl _) (by rfl) (by unfold maxLen;omega)) hg1;have HOWN:=hid hown1;have HBA:=hid hBa;clear hown1 hBa hg1)
   obtain ⟨Bv,dv,rfl⟩:=zbb HOWN.out
   go_ret3
   refine ⟨⟨⟨A1,c1,[⟨16,1⟩]⟩ :: L,Bv,dv,_,by rw[H0.out,List.length_cons,Nat.add_comm];rfl,by rw[List.map_cons,HLL.out,HV.out],Rd.of_own HOWN.out,fun x hx => ?_,fun _=>⟨g3,c3,rfl,zak HX3.out HBA.out (Nat.le_refl _)⟩,fun h=>absurd H0.out h⟩,HB3.out.trans (HBA.out.mono HB3.out.size)⟩
   rcases List.mem_cons.1 hx with rfl|hx
   · exact ⟨by show 1≤32;decide,HE3.out.up HBA.out HBA.out.size⟩
   · exact ⟨HSM.out _ (by rw[←HLL.out];exact List.mem_map_of_mem hx),(HC4.out x hx).up HBA.out HBA.out.size⟩
 · rw[if_neg h0] at HS
   have HV:Hid (coL ws=[]):=hid (by unfold coL;rw[if_neg h0])
   have H0:=hid h0
   unfold zhc at HS
   obtain ⟨r,hr2⟩:∃ r,zcz ws=r:=⟨_,rfl⟩
   have HQ:=hid hr2
   rw[hr2] at HS h0
   have e1:(r != 0)=true:=by rw[bne_iff_ne];exact h0
   clear hr ho h0 hr2
   go_enter Tryz.func50,Tryz.ntmps50
   go_wp2_with fail
   refine HS.out.mono ?_
   rintro e w1 ⟨⟨A1,c1,rfl,-⟩,hB1⟩
   go_wp2_with fail
   go_ret3
   exact ⟨⟨[],none,0,_,by rw[HQ.out];rfl,by rw[HV.out];rfl,Rd.nil_,fun x hx=>absurd hx (by simp),fun h=>absurd h H0.out,fun _=>rfl⟩,hB1⟩
def zI5 (ws:List Nat) (H:Nat) (e:Ending) (w':World):Prop:=(zcz ws=0→∃ g c,e=.returned (.tuple #[.slice (some ⟨g,0,none⟩) ws.length c,.int .i64 0])∧w'.ownsRow H 53 1 (.slice (some ⟨g,0,none⟩) ws.length c) ws.length ((cpZ ws).flatMap zaj))∧(zcz ws≠0→e=.returned (.tuple #[.slice none 0 0,.int .i64 (zcz ws)]))
set_option maxRecDepth 100000 in
set_option maxHeartbeats 1000000 in
theorem zl6 (A:Option Addr) (ws:List Nat) (c n:Nat) (w:World) (hn:ws.length=n) (hm:n≤9223372036854775807) (hc:n≤c) (hr:RdW w w.heap.size A ws) (ho:∀ x ∈ ws,x<18446744073709551616) :
   Calls Tryz.prog 15 #[.slice A n c] w fun e w'=>zI5 ws w.heap.size e w'∧Below w.heap.size w w':=by
 subst hn
 have HS:=hid (ztv A ws c ws.length w rfl hm hc hr ho)
 unfold CoRes at HS
 clear hr ho hm hc
 go_enter Tryz.func15,Tryz.ntmps15
 go_wp2_with fail
 refine HS.out.mono ?_
 rintro e w1 ⟨⟨L,B,d,vx,rfl,-,-,-,h1,h2⟩,hB1⟩
 have H1:=hid h1
 have H2:=hid h2
 clear h1 h2
 by_cases h0:zcz ws=0
 · obtain ⟨g,c',rfl,hown⟩:=H1.out h0
   have HW:=hid hown
   have HQ:=hid h0
   rw[h0]
   clear hown h0
   go_wp2_with fail
   go_ret2
   exact ⟨⟨fun _=>⟨g,c',rfl,HW.out⟩,fun h=>absurd HQ.out h⟩,hB1⟩
 · obtain rfl:=H2.out h0
   have HQ:=hid h0
   clear h0
   go_wp2_with fail
   go_ret2
   exact ⟨⟨fun h=>absurd h HQ.out,fun _=>rfl⟩,hB1⟩
end Go.Proofs.YtpcajamacpbjcaaGreat
namespace Go.Proofs.YtpcajamacpbjcaaGreat
open Lib (hid)
open Go.RowKit
end Go.Proofs.YtpcajamacpbjcaaGreat
namespace Go.Proofs.YtpcajamacpbjcaaGreat
open Lib (hid)
open Go.RowKit
def zly (ws:List Nat) (t:Nat):List Nat:=spL ws.length t++(spL ws.length t++ws.drop 16)
theorem zkg {ws:List Nat} {t:Nat} (h:16≤ws.length):(zly ws t).length=ws.length:=by
 unfold zly
 rw[List.length_append,List.length_append,zpa,List.length_drop]
 omega
theorem zLj {α:Type} {cur S:List α} {n:Nat} (hS:S.length=8) (hn:16≤n):(splice (splice cur 0 S) 8 S).take n=S++(S++(cur.take n).drop 16):=by
 have e1:splice cur 0 S=S++cur.drop 8:=by unfold splice;rw[List.take_zero,List.nil_append,hS]
 have e2:splice (splice cur 0 S) 8 S=S++(S++cur.drop 16):=by
  rw[e1]
  unfold splice
  rw[List.take_append_of_le_length (by omega),List.take_of_length_le (by omega),hS,List.drop_append,List.drop_of_length_le (by omega),List.nil_append,hS,List.drop_drop]
 rw[e2,List.take_append,List.take_of_length_le (by omega),hS,List.take_append,List.take_of_length_le (by omega),hS,List.drop_take]
 congr 3
theorem zy7 (ws:List Nat) (k:Nat):(ws.drop k).flatMap zaj=(ws.flatMap zaj).drop k:=zn8 zaj zbe ws k
theorem zD9 {w:World} {H n sz g c:Nat} {e:TypeId} {xs:List Value} (h:w.ownsRow H e sz (.slice (some ⟨g,0,none⟩) n c) n xs):∃ cur:List Value,w.heap[g]? = some (.cells cur.toArray e (0,0))∧H≤g∧n≤c∧c≤maxLen∧cur.length=c * sz∧cur.take (n * sz)=xs:=by
 rcases h.2 with ⟨h1,-⟩|⟨g',cap,cur,h1,h2,h3,h4,h5,h6,h7⟩
 · cases h1
 · simp only[Value.slice.injEq,Option.some.injEq,Addr.mk.injEq,and_true,true_and] at h1
   obtain ⟨rfl,rfl⟩:=h1
   exact ⟨cur.toList,by rw[h3],h2,h4,h5,by rw[Array.length_toList,h6],h7⟩
theorem zzd {P:Program} {ops:Array Oper} {rest:List Oper} {a:Act} {w:World} {Q:Exit→Act→World→Prop} {dst:Option Tmp} {type:TypeId} {pos:String} {after:Array Edge} {guard:Option (Nat × Bool)} {xs:Array Operand} {ts:Array TypeId}
 (h:wpList P ops Q ({ dst:=dst,op:=.call { callee:=.builtin .copy,args:=xs,argTypes:=ts },type:=type,pos:=pos,after:=after,guard:=guard } :: rest) a w):wpList P ops Q ({ dst:=dst,op:=.call { callee:=.builtin .copy,args:=xs,argTypes:=ts },type:=type,pos:=pos,after:=after,guard:=guard } :: rest) a w:=h
theorem zA1 (b o j:Nat):(⟨b,o,none⟩:Addr).add j=⟨b,o+j,none⟩:=by unfold Addr.add;split <;> simp_all
set_option maxRecDepth 100000 in
set_option maxHeartbeats 4000000 in
theorem zpg (A:Option Addr) (ws:List Nat) (c n t H:Nat) (w:World) (hn:ws.length=n) (h0:16<n) (hm:n≤1000000) (ht:t≤1000000) (hr:RdW w H A ws) (hH:H≤w.heap.size) :
   Calls Tryz.prog 61 #[.slice A n c,.int .i64 (t:Int)] w fun e w'=>zHe w (zly ws t) e w':=by
 have HR:=hid (hr.more hH)
 have HN:=hid hn
 have HLN:=hid (zh1 ws)
 have HWR:=hid (fun W=>zld n t W (by omega) (by omega))
 have HFL:Hid ((zly ws t).length=n):=hid (by rw[zkg (by omega),hn])
 have HFC:Hid ((zly ws t).flatMap zaj=(spL n t).flatMap zaj++((spL n t).flatMap zaj++(ws.flatMap zaj).drop 16)):=hid (by unfold zly;rw[hn,List.flatMap_append,List.flatMap_append,zy7])
 have HS1:=hid (zd2 zpi (spL n t))
 have hS8:((spL n t).flatMap zaj).length=8:=by rw[zh1];exact zpa n t
 obtain ⟨S,hS⟩:∃ S,(spL n t).flatMap zaj=S:=⟨_,rfl⟩
 rw[hS] at HWR HFC HS1 hS8
 have HS8:=hid hS8
 obtain ⟨b,off,rfl,hb,-⟩:=RdW.at_ hr (show 0<ws.length by omega)
 clear hr hH hn hb hS hS8
 obtain ⟨i0,hi,hz0,hz1,hz2⟩:=info_parts zpd
 have HI:=hid hi
 have HZ0:=hid hz0
 have HZ1:=hid hz1
 have HZ2:=hid hz2
 clear hi hz0 hz1 hz2
 go_enter Tryz.func61,Tryz.ntmps61
 go_wp2_with fail
 refine (HWR.out w).mono ?_
 rintro e w1 ⟨⟨AS,cS,rfl,hown1⟩,hB1⟩
 have HB1:=hid hB1
 obtain ⟨bS,oS,rfl,hbS,hcS⟩:=(Rd.of_own hown1) (fun h=>by have:=HS8.out;rw[h] at this;cases this)
 have HCS:Hid (∀ W,Below w1.heap.size w1 W→∀ j v,S[j]? = some v→W.cell? ((⟨bS,oS,none⟩:Addr).add j)=some v):=hid fun W hb j v hv=>by
   obtain ⟨hj,rfl⟩:=List.getElem?_eq_some_iff.1 hv
   rw[zA1]
   exact (hb.cell (p:=⟨bS,oS+j,none⟩) hbS).trans (hcS j hj)
 have h1i:(Tryz.prog.info? 53).map (·.size)=some 1:=by kernel_rfl
 have HI1:=hid h1i
 have HR1:=hid (HR.out.up hB1 hB1.size)
 have hz1:=hB1.size
 clear hB1 hown1 hcS h1i
 go_wp2_with (first
   | (at_builtin;refine zb2 _ (by rfl) _ _ 22 rfl w1.heap.size 53 i0 _ 1 8 Tryz.underlying22 HI.out HZ0.out HZ1.out HZ2.out rfl (by decide) (.slice (some ⟨w1.heap.size,0,none⟩) 0 0) 0 [] (by rfl) (zjz w1 _ _ _ (Nat.le_refl _)) w1.heap.size (some ⟨b,off,none⟩) n _ (ws.flatMap zaj) (by rfl) (by rw[HLN.out,HN.out];omega) (Rd.alloc HR1.out (Nat.le_refl _) _) (zd2 zpi _) (by unfold maxLen;omega) (by omega) (by simp) ?_;intro v1 wa hown1 hg1;have hBa:=zcm ((Below.refl w1.heap.size w1).alloc (Nat.le_refl _) _) (by simp) (zjz w1 w1.heap.size 53 1 (Nat.le_refl _)) hg1;simp only[Nat.zero_add,List.nil_append] at hown1;obtain ⟨g,c1,rfl⟩:=zl8 hown1 (by omega);have HOWN:=hid hown1;have HBA:=hid hBa;obtain ⟨cur,hgg,hHg,hc1,hcm,hcl,htk⟩:=zD9 hown1;have HG:=hid hgg;have HCL:=hid hcl;have HTK:=hid htk;clear hown1 hBa hg1 hgg hcl htk)
   | ((with_reducible refine zzd ?_);refine wpList_copy_splice rfl _ _ 22 22 rfl 53 Tryz.underlying22 HI1.out _ _ _ _ _ _ rfl rfl g 0 cur 53 HG.out S (by rw[HS8.out];exact (Nat.min_eq_left (by omega)).symm) (fun _=>⟨rfl,_,rfl,HCS.out _ HBA.out⟩) (by rw[HS8.out,HCL.out];omega) HS1.out w1.heap.size w1 HBA.out hHg ?_;intro w2 HG2 hB2;have HB2:=hid hB2;clear hB2)
   | ((with_reducible refine zzd ?_);refine wpList_copy_splice rfl _ _ 22 22 rfl 53 Tryz.underlying22 HI1.out _ _ _ _ _ _ rfl rfl g 8 (splice cur 0 S) 53 HG2.out S (by rw[HS8.out];exact (Nat.min_eq_left (by omega)).symm) (fun _=>⟨rfl,_,rfl,HCS.out _ HB2.out⟩) (by rw[length_splice _ _ _ (by rw[HS8.out,HCL.out];omega),HS8.out,HCL.out];omega) HS1.out w1.heap.size w1 HB2.out hHg ?_;intro w3 HG3 hB3;have HB3:=hid hB3;clear hB3))
 go_ret
 have hl1:(splice cur 0 S).length=cur.length:=length_splice _ _ _ (by rw[HS8.out,HCL.out];omega)
 have hl2:(splice (splice cur 0 S) 8 S).length=cur.length:=by rw[length_splice _ _ _ (by rw[hl1,HS8.out,HCL.out];omega),hl1]
 refine ⟨g,c1,by rw[HFL.out];rfl,?_,HB1.out.trans (HB3.out.mono hz1)⟩
 rw[HFL.out]
 refine ⟨by rw[zh1,HFL.out,Nat.mul_one],.inr ⟨g,c1,_,rfl,Nat.le_trans hz1 hHg,HG3.out,hc1,hcm,?_,?_⟩⟩
 · rw[List.size_toArray,hl2,HCL.out]
 · have htk:=HTK.out
   rw[Nat.mul_one] at htk ⊢
   rw[zLj HS8.out (by omega),HFC.out,htk]
end Go.Proofs.YtpcajamacpbjcaaGreat
namespace Go.Proofs.YtpcajamacpbjcaaGreat
open Lib (hid)
open Go.RowKit
def zov:List Nat:=zly zmg 0
def b35L:List Nat:=zmr 256 [[1]] [obj4 false] []
def ztg:List Nat:=zly b35L 1
def j35L:List Nat:=zmr 256 [[1]] [] []
def zvw:List Nat:=zly j35L 1
theorem zla:zov.length=256:=by unfold zov;rw[zkg (by rw[zim];omega),zim]
theorem zuf:b35L.length=256:=by decide +kernel
theorem zts:j35L.length=256:=by decide +kernel
theorem zpz:ztg.length=256:=by unfold ztg;rw[zkg (by rw[zuf];omega),zuf]
theorem zAz:zvw.length=256:=by unfold zvw;rw[zkg (by rw[zts];omega),zts]
theorem zIb:∀ x ∈ zov,x<18446744073709551616:=by decide +kernel
theorem zDw:∀ x ∈ ztg,x<18446744073709551616:=by decide +kernel
theorem zDs:lay zov=true:=by decide +kernel
theorem zt7:lay ztg=true:=by decide +kernel
theorem zK3:(zoo 20 12 (zha zov)).map (fun r=>(r.1,r.2.2))=some (0,zov):=by decide +kernel
theorem zI2:(zoo 20 12 (zha ztg)).map (fun r=>(r.1,r.2.2.take 130))=some (0,zvw.take 130):=by decide +kernel
theorem zBt {ws:List Nat} (h:lay ws=true):zcz ws=0:=by
 obtain ⟨t,h⟩:=zq3 h
 exact zqv h
theorem zH5 {ws y:List Nat} {f k:Nat} {g:List Nat→List Nat} (hl:lay ws=true) (ho:∀ v ∈ ws,v<18446744073709551616) (h:(zoo f k (zha ws)).map (fun r=>(r.1,g r.2.2))=some (0,y)):g (cpZ ws)=y:=by
 obtain ⟨t,hL⟩:=zq3 hl
 cases hr:zoo f k (zha ws) with
 | none=>rw[hr] at h;cases h
 | some r =>
  rw[hr] at h
  simp only[Option.map_some,Option.some.injEq,Prod.mk.injEq] at h
  have h2:=zCz (zzb ho) hr
  have h3:=(hL.all ho).symm.trans h2
  clear h2 hr
  subst h3
  dsimp only at h
  exact h.2
theorem f35_cp:cpZ zov=zov:=zH5 (g:=fun x=>x) zDs zIb zK3
theorem zBm:(cpZ ztg).take 130=zvw.take 130∧(cpZ ztg).length=256:=by
 obtain ⟨t,h⟩:=zq3 zt7
 exact ⟨zH5 (g:=fun x=>x.take 130) zt7 zDw zI2,(zJ3 h zDw).trans zpz⟩
theorem zIh:∀ k,k<1→fits 256 [[1]] [obj4 false] k:=by decide +kernel
set_option maxRecDepth 100000 in
set_option maxHeartbeats 1000000 in
theorem zEa (w:World):Calls Tryz.prog 40 #[] w fun e w'=>zHe w zov e w':=by
 have HBC:=hid (fun W=>zsu none none none [] [] [] 0 0 0 256 W.heap.size W (by omega) (by omega) RdT.nil_ (show (0:Nat)≤8 by decide) Rd.nil_ Rd.nil_ (show (0:Nat)≤16 by decide) (Nat.le_refl _) (show (0:Nat)≤2048 by decide) (fun k hk=>absurd hk (by simp)) (fun k hk=>absurd hk (by simp)))
 have HFL:Hid (zmr 256 (List.map Ty.l []) [] []=zmg):=hid rfl
 rw[HFL.out] at HBC
 unfold zHe at HBC
 rw[zim] at HBC
 have HF:=hid (fun A c W (h:RdW W W.heap.size A zmg)=>zpg A zmg c 256 0 W.heap.size W zim (by omega) (by omega) (by omega) h (Nat.le_refl _))
 rw[show zly zmg 0=zov from rfl] at HF
 unfold zHe at HF ⊢
 rw[zla] at HF ⊢
 simp only[Int.cast_ofNat_Int] at HF
 generalize zov=F at HF ⊢
 generalize zmg=F0 at HBC HF
 clear HFL
 go_enter Tryz.func40,Tryz.ntmps40
 go_wp2_with fail
 refine (HBC.out w).mono ?_
 rintro e w1 ⟨g1,c1,rfl,hown1,hB1⟩
 have HB1:=hid hB1
 have HF1:=hid (Rd.of_own hown1)
 clear hown1 hB1
 go_wp2_with fail
 refine (HF.out _ _ _ HF1.out).mono ?_
 rintro e w2 ⟨g2,c2,rfl,hown2,hB2⟩
 have HB2:=hid (HB1.out.trans (hB2.mono HB1.out.size))
 have HO2:=hid (zbf hown2 HB1.out.size)
 clear hown2 hB2
 go_wp2_with fail
 go_ret
 exact ⟨g2,c2,rfl,HO2.out,HB2.out⟩
theorem zzu (w:World):RdT ((w.alloc (.cells #[.int .u8 1] 5)).alloc (.cells #[.slice (some ⟨w.heap.size,0,none⟩) 1 1] 113)) (w.heap.size+1+1) (some ⟨w.heap.size+1,0,none⟩) [⟨some ⟨w.heap.size,0,none⟩,1,[1]⟩]:=by
 have x0:=(Bx.new w 5 #[.int .u8 1]).alloc (.cells #[.slice (some ⟨w.heap.size,0,none⟩) 1 1] 113)
 have x1:=Bx.new (w.alloc (.cells #[.int .u8 1] 5)) 113 #[.slice (some ⟨w.heap.size,0,none⟩) 1 1]
 simp only[World.size_alloc] at x1
 refine ⟨Rd.of_bx x1 (by omega),fun x hx => ?_⟩
 rw[List.mem_singleton] at hx
 subst hx
 exact ⟨Rd.of_bx x0 (by omega),show (1:Nat)≤8 by decide,show zdk [1]=true by decide⟩
set_option maxRecDepth 100000 in
set_option maxHeartbeats 8000000 in
theorem zmv (w:World):Calls Tryz.prog 23 #[] w fun e w'=>e=.returned (.bool true)∧Below w.heap.size w w':=by
 have HFR:=hid (fun W=>zEa W)
 unfold zHe at HFR
 rw[zla] at HFR
 have HV1:=hid (fun A c W (hc:256≤c) (h:RdW W W.heap.size A zov)=>zl6 A zov c 256 W zla (by omega) hc h zIb)
 have HV2:=hid (fun A c W (hc:256≤c) (h:RdW W W.heap.size A ztg)=>zl6 A ztg c 256 W zpz (by omega) hc h zDw)
 unfold zI5 at HV1 HV2
 rw[zBt zDs,f35_cp,zla] at HV1
 rw[zBt zt7,zpz] at HV2
 have HBB:=hid (fun (W X:World) (hT:RdT X X.heap.size (some ⟨W.heap.size+1,0,none⟩) [⟨some ⟨W.heap.size,0,none⟩,1,[1]⟩]) (hB:RdB X X.heap.size (some ⟨W.heap.size+1+1,0,none⟩) [obj4 false])=>zsu (some ⟨W.heap.size+1,0,none⟩) (some ⟨W.heap.size+1+1,0,none⟩) none [⟨some ⟨W.heap.size,0,none⟩,1,[1]⟩] [obj4 false] [] 1 1 0 256 X.heap.size X (by omega) (by omega) hT (show (1:Nat)≤8 by decide) hB Rd.nil_ (show (0:Nat)≤16 by decide) (Nat.le_refl _) (show (1:Nat)≤2048 by decide) (fun k hk=>zIh k hk) (fun k hk=>absurd hk (by simp)))
 have HBJ:=hid (fun (W X:World) (hT:RdT X X.heap.size (some ⟨W.heap.size+1,0,none⟩) [⟨some ⟨W.heap.size,0,none⟩,1,[1]⟩])=>zsu (some ⟨W.heap.size+1,0,none⟩) none none [⟨some ⟨W.heap.size,0,none⟩,1,[1]⟩] [] [] 1 0 0 256 X.heap.size X (by omega) (by omega) hT (show (1:Nat)≤8 by decide) Rd.nil_ Rd.nil_ (show (0:Nat)≤16 by decide) (Nat.le_refl _) (show (0:Nat)≤2048 by decide) (fun k hk=>absurd hk (by simp)) (fun k hk=>absurd hk (by simp)))
 have HFB:=hid (fun A c W (h:RdW W W.heap.size A b35L)=>zpg A b35L c 256 1 W.heap.size W zuf (by omega) (by omega) (by omega) h (Nat.le_refl _))
 have HFJ:=hid (fun A c W (h:RdW W W.heap.size A j35L)=>zpg A j35L c 256 1 W.heap.size W zts (by omega) (by omega) (by omega) h (Nat.le_refl _))
 simp only[List.map_cons,List.map_nil] at HBB HBJ
 rw[show zly b35L 1=ztg from rfl] at HFB
 rw[show zly j35L 1=zvw from rfl] at HFJ
 unfold zHe at HBB HBJ HFB HFJ
 rw[zpz] at HFB
 rw[zAz] at HFJ
 have HSF:=hid (fun A c B d W (h1:RdW W W.heap.size A zov) (h2:RdW W W.heap.size B zov)=>zi7 A B zov zov 256 256 c d W.heap.size W zla zla (by omega) h1 h2 (Nat.le_refl _))
 rw[show decide (zov=zov)=true by simp] at HSF
 have HSK:=hid (fun A c B d W (h1:RdW W W.heap.size A ((cpZ ztg).take 130)) (h2:RdW W W.heap.size B (zvw.take 130))=>zi7 A B ((cpZ ztg).take 130) (zvw.take 130) 130 130 c d W.heap.size W (by rw[List.length_take,zBm.2];rfl) (by rw[List.length_take,zAz];rfl) (by omega) h1 h2 (Nat.le_refl _))
 rw[zBm.1,show decide (zvw.take 130=zvw.take 130)=true by simp] at HSK
 have HTZ:Hid (∀ W B A,RdW W B A (cpZ ztg)→RdW W B A (zvw.take 130)):=hid fun W B A h=>by
  have:=h.take_ 130
  rw[←zk9 zaj zbe,zBm.1] at this
  exact this
 have HTK:Hid (∀ W B A,RdW W B A zvw→RdW W B A (zvw.take 130)):=hid fun W B A h=>by
  have:=h.take_ 130
  rw[←zk9 zaj zbe] at this
  exact this
 generalize zov=F at HFR HV1 HSF
 generalize zvw.take 130=K3 at HSK HTZ HTK
 generalize cpZ ztg=Z at HV2 HTZ
 generalize zvw=K5 at HFJ HTK
 generalize ztg=CL at HFB HV2
 have hz1:∀ W:World,((W.alloc (.cells #[.int .u8 1] 5)).alloc (.cells #[.slice (some ⟨W.heap.size,0,none⟩) 1 1] 113)).heap.size=W.heap.size+1+1:=fun W=>by simp
 have hz2:∀ W:World,(((W.alloc (.cells #[.int .u8 1] 5)).alloc (.cells #[.slice (some ⟨W.heap.size,0,none⟩) 1 1] 113)).alloc (.cells #[.int .i64 0,.int .i64 4,.int .i64 1,.int .i64 0,.bool false,.int .u64 0] 55)).heap.size=W.heap.size+1+1+1:=fun W=>by simp
 have HZ1:=hid hz1
 have HZ2:=hid hz2
 clear hz1 hz2
 go_enter Tryz.func23,Tryz.ntmps23
 go_wp2_with fail
 refine (HFR.out w).mono ?_
 rintro e w1 ⟨g1,c1,rfl,hown1,hB1⟩
 have HB1:=hid hB1
 have HF1:=hid (Rd.of_own hown1)
 have hc1:=zfo hown1
 clear hown1 hB1
 go_wp2_with fail
 refine (HV1.out _ _ _ hc1 HF1.out).mono ?_
 rintro e w2 ⟨⟨hv,-⟩,hB2⟩
 obtain ⟨g2,c2,rfl,hown2⟩:=hv trivial
 have HB2:=hid (HB1.out.trans (hB2.mono HB1.out.size))
 have HX2:=hid (Rd.of_own hown2)
 clear hv hown2 hB2
 go_wp2_with fail
 have t3:=(zzu w2).below (((Below.refl (w2.heap.size+1+1) ((w2.alloc (.cells #[.int .u8 1] 5)).alloc (.cells #[.slice (some ⟨w2.heap.size,0,none⟩) 1 1] 113))).alloc (by simp) (.cells #[.int .i64 0,.int .i64 4,.int .i64 1,.int .i64 0,.bool false,.int .u64 0] 55)))
 have x3:=Bx.new ((w2.alloc (.cells #[.int .u8 1] 5)).alloc (.cells #[.slice (some ⟨w2.heap.size,0,none⟩) 1 1] 113)) 55 #[.int .i64 0,.int .i64 4,.int .i64 1,.int .i64 0,.bool false,.int .u64 0]
 have b3:=(((Below.refl w2.heap.size w2).alloc (Nat.le_refl _) (.cells #[.int .u8 1] 5)).alloc (by simp) (.cells #[.slice (some ⟨w2.heap.size,0,none⟩) 1 1] 113)).alloc (by simp;omega) (.cells #[.int .i64 0,.int .i64 4,.int .i64 1,.int .i64 0,.bool false,.int .u64 0] 55)
 have hs3:=HZ2.out w2
 rw[HZ1.out w2] at x3
 obtain ⟨W3,hW3⟩:∃ W3,((w2.alloc (.cells #[.int .u8 1] 5)).alloc (.cells #[.slice (some ⟨w2.heap.size,0,none⟩) 1 1] 113)).alloc (.cells #[.int .i64 0,.int .i64 4,.int .i64 1,.int .i64 0,.bool false,.int .u64 0] 55)=W3:=⟨_,rfl⟩
 rw[hW3] at t3 x3 b3 hs3 ⊢
 have T3:=t3.more (show w2.heap.size+1+1≤W3.heap.size by omega)
 have HB3:=hid (HB2.out.trans (b3.mono HB2.out.size))
 have HX3:=hid (HX2.out.up b3 b3.size)
 refine (HBB.out w2 W3 T3 (show Rd _ _ _ _ from Rd.of_bx x3 x3.lt)).mono ?_
 rintro e w4 ⟨g4,c4,rfl,hown4,hB4⟩
 have HB4:=hid (HB3.out.trans (hB4.mono HB3.out.size))
 have HX4:=hid (HX3.out.up hB4 hB4.size)
 have HF4:=hid (Rd.of_own hown4)
 clear hown4 hB4 t3 x3 b3 hs3 T3 hW3
 go_wp2_with fail
 refine (HFB.out _ _ _ HF4.out).mono ?_
 rintro e w5 ⟨g5,c5,rfl,hown5,hB5⟩
 have HB5:=hid (HB4.out.trans (hB5.mono HB4.out.size))
 have HX5:=hid (HX4.out.up hB5 hB5.size)
 have HF5:=hid (Rd.of_own hown5)
 have hc5:=zfo hown5
 clear hown5 hB5
 go_wp2_with fail
 refine (HV2.out _ _ _ hc5 HF5.out).mono ?_
 rintro e w6 ⟨⟨hv,-⟩,hB6⟩
 obtain ⟨g6,c6,rfl,hown6⟩:=hv trivial
 have HB6:=hid (HB5.out.trans (hB6.mono HB5.out.size))
 have HX6:=hid (HX5.out.up hB6 hB6.size)
 have HY6:=hid (HTZ.out _ _ _ (Rd.of_own hown6))
 have hc6:=zfo hown6
 clear hv hown6 hB6
 go_wp2_with fail
 have t3:=zzu w6
 have b3:=((Below.refl w6.heap.size w6).alloc (Nat.le_refl _) (.cells #[.int .u8 1] 5)).alloc (by simp) (.cells #[.slice (some ⟨w6.heap.size,0,none⟩) 1 1] 113)
 have hs3:=HZ1.out w6
 obtain ⟨W3,hW3⟩:∃ W3,(w6.alloc (.cells #[.int .u8 1] 5)).alloc (.cells #[.slice (some ⟨w6.heap.size,0,none⟩) 1 1] 113)=W3:=⟨_,rfl⟩
 rw[hW3] at t3 b3 hs3 ⊢
 have T3:=t3.more (show w6.heap.size+1+1≤W3.heap.size by omega)
 have HBc:=hid (HB6.out.trans (b3.mono HB6.out.size))
 have HXc:=hid (HX6.out.up b3 b3.size)
 have HYc:=hid (HY6.out.up b3 b3.size)
 refine (HBJ.out w6 W3 T3).mono ?_
 rintro e w8 ⟨g8,c8,rfl,hown8,hB8⟩
 have HB8:=hid (HBc.out.trans (hB8.mono HBc.out.size))
 have HX8:=hid (HXc.out.up hB8 hB8.size)
 have HY8:=hid (HYc.out.up hB8 hB8.size)
 have HF8:=hid (Rd.of_own hown8)
 clear hown8 hB8 t3 b3 hs3 T3 hW3
 go_wp2_with fail
 refine (HFJ.out _ _ _ HF8.out).mono ?_
 rintro e w7 ⟨g7,c7,rfl,hown7,hB7⟩
 have HB7:=hid (HB8.out.trans (hB7.mono HB8.out.size))
 have HX7:=hid (HX8.out.up hB7 hB7.size)
 have HY7:=hid (HY8.out.up hB7 hB7.size)
 have HK7:=hid (HTK.out _ _ _ (Rd.of_own hown7))
 have hc7:=zfo hown7
 clear hown7 hB7
 go_upto_region 5 with (fail)
 refine znk (S:=fun X:World=>Below w7.heap.size w7 X) ((0,0,0) :: (0,1,0) :: (0,2,0) :: (0,3,0) :: (1,4,0) :: (1,5,0) :: (0,6,0) :: (0,7,0) :: (0,8,0) :: (0,9,0) :: (0,10,0) :: (0,11,0) :: (0,12,0) :: (0,13,0) :: (0,17,0) :: (0,18,0) :: (1,14,0) :: (1,15,0) :: (0,16,0) :: (1,19,0) :: (0,20,0) :: (0,21,0) :: []) (.one _ true (none) :: .one _ true (none) :: .one _ true (none) :: .one _ true (some (some 29,true)) :: .one _ false (some (some 29,true)) :: .one _ false (some (some 29,true)) :: .one _ true (none) :: .one _ true (none) :: .one _ true (some (some 34,true)) :: .one _ true (some (some 34,true)) :: .one _ true (none) :: .one _ true (none) :: .one _ true (some (some 38,true)) :: .one _ true (some (some 38,true)) :: .one _ true (some (some 38,true)) :: .one _ true (some (some 38,true)) :: .one _ false (some (some 38,true)) :: .one _ false (some (some 38,true)) :: .one _ true (some (some 38,true)) :: .one _ false (some (some 38,true)) :: .one _ true (none) :: .one _ true (none) :: []) (by kernel_rfl) (by kernel_rfl) (by decide) (by show zk8 _ _ (((0,0,0) :: (0,1,0) :: (0,2,0) :: (0,3,0) :: (1,4,0) :: (1,5,0) :: (0,6,0) :: (0,7,0) :: (0,8,0) :: (0,9,0) :: [])++(((0,10,0) :: (0,11,0) :: (0,12,0) :: (0,13,0) :: (0,17,0) :: (0,18,0) :: (1,14,0) :: (1,15,0) :: (0,16,0) :: (1,19,0) :: [])++(((0,20,0) :: (0,21,0) :: [])))) _=true;refine zmq _ (by as_aux_lemma=>kernel_rfl) ?_;refine zmq _ (by as_aux_lemma=>kernel_rfl) ?_;(as_aux_lemma=>kernel_rfl)) (by rfl) (fun _ _ d _ _ h=>by cases d <;> exact h) (Below.refl _ _).drew ?_
 have HX0:=hid ((Below.refl w7.heap.size w7).drew)
 obtain ⟨X0,hX0⟩:∃ X,w7.drew=X:=⟨_,rfl⟩
 rw[hX0] at HX0 ⊢
 clear hX0
 have hne:Nonempty (SW (fun X:World=>Below w7.heap.size w7 X)):=⟨⟨X0,HX0.out⟩⟩
 iterate 4 (first | (refine zed (by rfl) ?_;(try simp only[Act.put,List.setIfInBounds_toArray,List.set_cons_zero,List.set_cons_succ])) | (refine zg5 (by rfl) ?_;intro K hK;go_big_quiet_op;go_big_quiet_on))
 refine zuj (by rfl) ?_
 intro K hK
 go_big_op
 refine (HFR.out X0).mono ?_
 rintro e X1 ⟨g,d,rfl,hown,hb⟩
 have HX1:=hid (HX0.out.trans (hb.mono HX0.out.size))
 have HF1:=hid (Rd.of_own hown)
 refine hK _ _ HX1.out ?_
 clear hK K hb hown
 (try simp only[Act.put,List.setIfInBounds_toArray,List.set_cons_zero,List.set_cons_succ])
 refine zuj (by rfl) ?_
 intro K hK
 go_big_op
 refine (HSF.out _ _ _ _ _ (HX7.out.up HX1.out HX1.out.size) HF1.out).mono ?_
 rintro e X2 ⟨rfl,hb⟩
 have HX2:=hid (HX1.out.trans (hb.mono HX1.out.size))
 refine hK _ _ HX2.out ?_
 clear hK K hb
 (try simp only[Act.put,List.setIfInBounds_toArray,List.set_cons_zero,List.set_cons_succ])
 iterate 10 (first | (refine zed (by rfl) ?_;(try simp only[Act.put,List.setIfInBounds_toArray,List.set_cons_zero,List.set_cons_succ])) | (refine zg5 (by rfl) ?_;intro K hK;go_big_quiet_op;go_big_quiet_on))
 (first | (refine zed (by rfl) ?_;(try simp only[Act.put,List.setIfInBounds_toArray,List.set_cons_zero,List.set_cons_succ])) | (refine zuj (by rfl) ?_;intro K hK;go_big_op;refine hK _ _ HX2.out ?_;clear hK K;(try simp only[Act.put,List.setIfInBounds_toArray,List.set_cons_zero,List.set_cons_succ])))
 (first | (refine zed (by rfl) ?_;(try simp only[Act.put,List.setIfInBounds_toArray,List.set_cons_zero,List.set_cons_succ])) | (refine zuj (by rfl) ?_;intro K hK;go_big_op;refine hK _ _ HX2.out ?_;clear hK K;(try simp only[Act.put,List.setIfInBounds_toArray,List.set_cons_zero,List.set_cons_succ])))
 iterate 1 (first | (refine zed (by rfl) ?_;(try simp only[Act.put,List.setIfInBounds_toArray,List.set_cons_zero,List.set_cons_succ])) | (refine zg5 (by rfl) ?_;intro K hK;go_big_quiet_op;go_big_quiet_on))
 refine zuj (by rfl) ?_
 intro K hK
 go_big_op
 refine (HSK.out _ _ _ _ _ (HY7.out.up HX2.out HX2.out.size) (HK7.out.up HX2.out HX2.out.size)).mono ?_
 rintro e X3 ⟨rfl,hb⟩
 have HX3:=hid (HX2.out.trans (hb.mono HX2.out.size))
 refine hK _ _ HX3.out ?_
 clear hK K hb
 (try simp only[Act.put,List.setIfInBounds_toArray,List.set_cons_zero,List.set_cons_succ])
 iterate 2 (first | (refine zed (by rfl) ?_;(try simp only[Act.put,List.setIfInBounds_toArray,List.set_cons_zero,List.set_cons_succ])) | (refine zg5 (by rfl) ?_;intro K hK;go_big_quiet_op;go_big_quiet_on))
 refine zDh ?_
 go_wp2_with fail
 go_ret
 exact ⟨rfl,HB7.out.trans (HX3.out.mono HB7.out.size)⟩
end Go.Proofs.YtpcajamacpbjcaaGreat
