/- Texts laid together: Img2 Ref14 Ref14S Ref15 Ref15F. -/
import Derived.Test.YtpcajamacpbjcaaGreatZKHead
import Derived.Test.YtpcajamacpbjcaaGreatZKRefs
namespace Go.Proofs.YtpcajamacpbjcaaGreat
open Lib (hid)
open Go.RowKit
section
set_option maxHeartbeats 400000
theorem zrc (n:Nat) (w:World) (hn:n≤9223372036854775807):Calls Tryz.prog 148 #[.int .i64 (n:Int)] w fun e w'=>e=.returned (.bool (zah (n:Int)))∧w=w':=by
 have H:Hid (∀ b:Bool,(b=true↔256≤n∧n≤2048∧n % 8=0)→b=zah (n:Int)):=hid fun b h=>by rw[Bool.eq_iff_iff,zad,h];omega
 go_enter Tryz.func148,Tryz.ntmps148
 go_wp2_with fail
 all_goals
  go_ret
  exact ⟨zj1 (H.out _ (by simp;omega)),rfl⟩
theorem zlp (A:Option Addr) (n c:Nat) (w:World) (hn:n≤9223372036854775807):Calls Tryz.prog 92 #[.slice A n c] w fun e w'=>e=.returned (.int .i64 (zkj n))∧w=w':=by
 cases hs:zah (n:Int)
 all_goals
  first
   | have HE:=hid (zbc hs)
   | have HE:=hid (zbw hs)
  have HS:=hid hs
  clear hs
  go_enter Tryz.func92,Tryz.ntmps92
  go_wp2_with fail
  refine (zrc n w hn).mono ?_
  rintro e w1 ⟨rfl,rfl⟩
  rw[HS.out]
  go_wp2_with fail
  go_ret
  exact ⟨by rw[HE.out];rfl,rfl⟩
end
end Go.Proofs.YtpcajamacpbjcaaGreat
namespace Go.Proofs.YtpcajamacpbjcaaGreat
open Lib (hid)
open Go.RowKit
set_option maxRecDepth 100000 in
set_option maxHeartbeats 2000000 in
theorem zq2 (b:Bk) (w:World):Calls Tryz.prog 291 #[b.val] w fun e w'=>e=.returned (.int .i64 (zhr b))∧Below w.heap.size w w':=by
 obtain ⟨xa,xs,xk,xt,xm,xn⟩:=b
 unfold Bk.val
 cases xm
 all_goals
  go_enter Tryz.func291,Tryz.ntmps291
  go_wp2_with fail
  all_goals
   go_ret
   refine ⟨?_,(Below.refl _ _).alloc (Nat.le_refl _) _⟩
   (try simp only[ne_eq,beq_iff_eq,beq_eq_false_iff_ne,Bool.not_eq_true',Bool.not_eq_false',decide_eq_false_iff_not,decide_eq_true_eq] at *)
   first
    | (exfalso;omega)
    | exact zmc (zD0 (by simp only[reduceCtorEq,and_false,false_and,or_false,true_and];omega))
    | exact zmc (zEc (by simp only[reduceCtorEq,and_false,false_and,or_false,true_and];omega))
end Go.Proofs.YtpcajamacpbjcaaGreat
namespace Go.Proofs.YtpcajamacpbjcaaGreat
open Lib (hid)
open Go.RowKit
set_option maxRecDepth 100000 in
set_option maxHeartbeats 1000000 in
theorem zJh (xa:Int) (S K T:Nat) (m:Bool) (xn:Nat) (w:World) (h1:K<256) (h2:T<128) (h3:S<65536) :
  Calls Tryz.prog 292 #[.agg #[.int .i64 xa,.int .i64 (S:Int),.int .i64 (K:Int),.int .i64 (T:Int),.bool m,.int .u64 (xn:Int)]] w fun e w'=>e=.returned (.int .u64 ((zcg ⟨xa,(S:Int),(K:Int),(T:Int),m,xn⟩:Nat):Int))∧Below w.heap.size w w':=by
 have HW:=hid (fun W=>zm9 K T S m W h1 h2 h3)
 have HE:Hid (zcg ⟨xa,(S:Int),(K:Int),(T:Int),m,xn⟩=K+znu m * 256+T * 512+S * 65536+zgi (K+znu m * 256+T * 512+S * 65536) % 4294967296 * 4294967296):=hid rfl
 obtain ⟨V,hV⟩:∃ V,K+znu m * 256+T * 512+S * 65536+zgi (K+znu m * 256+T * 512+S * 65536) % 4294967296 * 4294967296=V:=⟨_,rfl⟩
 rw[hV] at HW HE
 rw[HE.out]
 clear hV
 go_enter Tryz.func292,Tryz.ntmps292
 go_wp2_with fail
 refine (HW.out _).mono ?_
 rintro e w1 ⟨rfl,hB1⟩
 rw[World.size_alloc] at hB1
 have hb1:=zan hB1
 clear hB1
 go_wp2_with fail
 go_ret
 exact ⟨rfl,hb1⟩
set_option maxRecDepth 100000 in
set_option maxHeartbeats 1600000 in
theorem zxo (x:Nat) (w:World) (hx:x<18446744073709551616):Calls Tryz.prog 274 #[.int .u64 (x:Int)] w fun e w'=>e=.returned (.tuple #[(zEh x).val,.bool (zar x)])∧Below w.heap.size w w':=by
 have HCK:=hid (fun W=>zq2 (zaf x) W)
 have HE0:Hid (zhr (zaf x)=0→zcg (zaf x)=x→zEh x=zaf x∧zar x=true):=hid fun h1 h2=>by
   have hb:zhs (zaf x)=true:=by
     cases hq:zhs (zaf x) with
     | true=>rfl
     | false=>rw[zmf hq] at h1;cases h1
   have:zar x=true:=by simp[zar,hb,h2]
   exact ⟨(zlq this).1,this⟩
 have HE1:Hid (zhr (zaf x)≠0∨zcg (zaf x)≠x→zEh x=zlv∧zar x=false):=hid fun h=>by
   have:zar x=false:=by
     cases hq:zhs (zaf x) with
     | false=>simp[zar,hq]
     | true =>
      rcases h with h|h
      · exact absurd (zg7 hq) h
      · simp[zar,hq,h]
   exact ⟨(zln this).1,this⟩
 have hx0:(0:Int)≤(x:Int):=by omega
 have hraw:(zaf x).val=.agg #[.int .i64 0,.int .i64 ((x / 65536 % 65536:Nat):Int),.int .i64 ((x % 256:Nat):Int),.int .i64 ((x / 512 % 128:Nat):Int),.bool (x / 256 % 2 == 1),.int .u64 0]:=rfl
 have m1:x % 256<256:=Nat.mod_lt _ (by omega)
 have m2:x / 256 % 2<2:=Nat.mod_lt _ (by omega)
 have m3:x / 512 % 128<128:=Nat.mod_lt _ (by omega)
 have m4:x / 65536 % 65536<65536:=Nat.mod_lt _ (by omega)
 have HV1:=hid (fun W=>zhy x 0 8 W hx (by omega))
 have HV2:=hid (fun W=>zhy x 8 1 W hx (by omega))
 have HV3:=hid (fun W=>zhy x 9 7 W hx (by omega))
 have HV4:=hid (fun W=>zhy x 16 16 W hx (by omega))
 rw[show zbq x 0 8=x % 256 by simp[zbq]] at HV1
 rw[show zbq x 8 1=x / 256 % 2 from rfl] at HV2
 rw[show zbq x 9 7=x / 512 % 128 from rfl] at HV3
 rw[show zbq x 16 16=x / 65536 % 65536 from rfl] at HV4
 have HOF:=hid (fun W=>zJh 0 (x / 65536 % 65536) (x % 256) (x / 512 % 128) (x / 256 % 2 == 1) 0 W m1 m3 m4)
 rw[show (⟨0,((x / 65536 % 65536:Nat):Int),((x % 256:Nat):Int),((x / 512 % 128:Nat):Int),(x / 256 % 2 == 1),0⟩:Bk)=zaf x from rfl] at HOF
 rw[hraw] at HCK
 have HRAW:=hid hraw
 have hbit:((((x / 256 % 2:Nat):Int)) == 1)=(x / 256 % 2 == 1):=by
   rw[Bool.eq_iff_iff,beq_iff_eq,beq_iff_eq];omega
 obtain ⟨K,hK⟩:∃ K,x % 256=K:=⟨_,rfl⟩
 obtain ⟨M,hM⟩:∃ M,x / 256 % 2=M:=⟨_,rfl⟩
 obtain ⟨T,hT⟩:∃ T,x / 512 % 128=T:=⟨_,rfl⟩
 obtain ⟨S,hS⟩:∃ S,x / 65536 % 65536=S:=⟨_,rfl⟩
 rw[hK] at m1 HV1 HCK HOF HRAW
 rw[hM] at m2 hbit HV2 HCK HOF HRAW
 rw[hT] at m3 HV3 HCK HOF HRAW
 rw[hS] at m4 HV4 HCK HOF HRAW
 obtain ⟨bm,hbm⟩:∃ b,(M == 1)=b:=⟨_,rfl⟩
 rw[hbm] at hbit HCK HOF HRAW
 obtain ⟨V,hV⟩:∃ V,zcg (zaf x)=V:=⟨_,rfl⟩
 obtain ⟨R,hR⟩:∃ R,zhr (zaf x)=R:=⟨_,rfl⟩
 rw[hV,hR] at HE0 HE1
 rw[hR] at HCK
 rw[hV] at HOF
 clear hx hraw hK hM hT hS hbm hV hR
 go_enter Tryz.func274,Tryz.ntmps274
 go_wp2_with fail
 refine (HV1.out _).mono ?_
 rintro e w1 ⟨rfl,rfl⟩
 go_wp2_with fail
 refine (HV2.out _).mono ?_
 rintro e w1 ⟨rfl,rfl⟩
 go_wp2_with fail
 refine (HV3.out _).mono ?_
 rintro e w1 ⟨rfl,rfl⟩
 go_wp2_with fail
 refine (HV4.out _).mono ?_
 rintro e w1 ⟨rfl,rfl⟩
 go_wp2_with fail
 have q0:=(Bx.new w 55 #[.int .i64 0,.int .i64 0,.int .i64 0,.int .i64 0,.bool false,.int .u64 0]).alloc (.cells #[.int .i64 0,.int .i64 (S:Int),.int .i64 (K:Int),.int .i64 (T:Int),.bool bm,.int .u64 0] 55)
 have q1:=Bx.new (w.alloc (.cells #[.int .i64 0,.int .i64 0,.int .i64 0,.int .i64 0,.bool false,.int .u64 0] 55)) 55 #[.int .i64 0,.int .i64 (S:Int),.int .i64 (K:Int),.int .i64 (T:Int),.bool bm,.int .u64 0]
 have hb0:Below w.heap.size w ((w.alloc (.cells #[.int .i64 0,.int .i64 0,.int .i64 0,.int .i64 0,.bool false,.int .u64 0] 55)).alloc (.cells #[.int .i64 0,.int .i64 (S:Int),.int .i64 (K:Int),.int .i64 (T:Int),.bool bm,.int .u64 0] 55)):=((Below.refl _ _).alloc (Nat.le_refl _) _).alloc (by simp) _
 have hsz:((w.alloc (.cells #[.int .i64 0,.int .i64 0,.int .i64 0,.int .i64 0,.bool false,.int .u64 0] 55)).alloc (.cells #[.int .i64 0,.int .i64 (S:Int),.int .i64 (K:Int),.int .i64 (T:Int),.bool bm,.int .u64 0] 55)).heap.size=w.heap.size+2:=by simp
 rw[World.size_alloc] at q1
 obtain ⟨W0,hW0⟩:∃ W0,(w.alloc (.cells #[.int .i64 0,.int .i64 0,.int .i64 0,.int .i64 0,.bool false,.int .u64 0] 55)).alloc (.cells #[.int .i64 0,.int .i64 (S:Int),.int .i64 (K:Int),.int .i64 (T:Int),.bool bm,.int .u64 0] 55)=W0:=⟨_,rfl⟩
 rw[hW0] at q0 q1 hb0 hsz ⊢
 clear hW0
 refine (HCK.out W0).mono ?_
 rintro e w1 ⟨rfl,hB1⟩
 have hb1:=hb0.trans (hB1.mono hb0.size)
 replace q0:=q0.up hB1 (by omega)
 replace q1:=q1.up hB1 (by omega)
 have hz1:w.heap.size+2≤w1.heap.size:=by have:=hB1.size;omega
 obtain ⟨c0,c1,c2,c3,c4,c5,cf,cz⟩:=q0.c6
 obtain ⟨d0,d1,d2,d3,d4,d5,df,dz⟩:=q1.c6
 have Q0:=hid q0
 have Q1:=hid q1
 have cf0:=cf 0
 have cf1:=cf 1
 have cf2:=cf 2
 have cf3:=cf 3
 have cf4:=cf 4
 have cf5:=cf 5
 clear q0 q1 hB1 hb0 hsz df cf hbit m1 m2 m3 m4
 by_cases hR:R=0
 · have hr1:(R != 0)=false:=by rw[bne_eq_false_iff_eq];exact hR
   have HRR:=hid hR
   clear hR cf0 cf1 cf2 cf3 cf4 cf5 c0 c1 c2 c3 c4 c5
   go_wp2_with fail
   refine (HOF.out w1).mono ?_
   rintro e w2 ⟨rfl,hB2⟩
   have hb2:=hb1.trans (hB2.mono hb1.size)
   have q0:=Q0.out.up hB2 (by omega)
   have q1:=Q1.out.up hB2 (by omega)
   clear d0 d1 d2 d3 d4 d5
   obtain ⟨c0,c1,c2,c3,c4,c5,cf,cz⟩:=q0.c6
   obtain ⟨d0,d1,d2,d3,d4,d5,df,dz⟩:=q1.c6
   have P0:=hid q0
   have cf0:=cf 0
   have cf1:=cf 1
   have cf2:=cf 2
   have cf3:=cf 3
   have cf4:=cf 4
   have cf5:=cf 5
   clear q0 q1 hB2 df cf
   by_cases hV:V=x
   · obtain ⟨g1,g2⟩:=HE0.out HRR.out hV
     have G1:=hid g1
     have G2:=hid g2
     have hv1:((V:Int) != (x:Int))=false:=by rw[bne_eq_false_iff_eq];omega
     clear hV g1 g2
     go_wp2_with fail
     refine bodyPost_ret (v:=.tuple #[.agg #[.int .i64 0,.int .i64 (S:Int),.int .i64 (K:Int),.int .i64 (T:Int),.bool bm,.int .u64 0],.bool true]) (za6 Tryz.results274 _ ((((((P0.out.set_ 0 _).set_ 1 _).set_ 2 _).set_ 3 _).set_ 4 _).set_ 5 _) rfl rfl) rfl ⟨by rw[G1.out,G2.out,HRAW.out],?_⟩
     exact (Below.setCell (p:=⟨w.heap.size,5,none⟩) (Below.setCell (p:=⟨w.heap.size,4,none⟩) (Below.setCell (p:=⟨w.heap.size,3,none⟩) (Below.setCell (p:=⟨w.heap.size,2,none⟩) (Below.setCell (p:=⟨w.heap.size,1,none⟩) (Below.setCell (p:=⟨w.heap.size,0,none⟩) hb2 (Nat.le_refl _) _) (Nat.le_refl _) _) (Nat.le_refl _) _) (Nat.le_refl _) _) (Nat.le_refl _) _) (Nat.le_refl _) _)
   · obtain ⟨g1,g2⟩:=HE1.out (.inr hV)
     have G1:=hid g1
     have G2:=hid g2
     have hv1:((V:Int) != (x:Int))=true:=by rw[bne_iff_ne];omega
     clear hV g1 g2
     go_wp2_with fail
     refine bodyPost_ret (v:=.tuple #[.agg #[.int .i64 0,.int .i64 0,.int .i64 0,.int .i64 0,.bool false,.int .u64 0],.bool false]) (za6 Tryz.results274 _ ((((((P0.out.set_ 0 _).set_ 1 _).set_ 2 _).set_ 3 _).set_ 4 _).set_ 5 _) rfl rfl) rfl ⟨by rw[G1.out,G2.out];rfl,?_⟩
     exact (Below.setCell (p:=⟨w.heap.size,5,none⟩) (Below.setCell (p:=⟨w.heap.size,4,none⟩) (Below.setCell (p:=⟨w.heap.size,3,none⟩) (Below.setCell (p:=⟨w.heap.size,2,none⟩) (Below.setCell (p:=⟨w.heap.size,1,none⟩) (Below.setCell (p:=⟨w.heap.size,0,none⟩) hb2 (Nat.le_refl _) _) (Nat.le_refl _) _) (Nat.le_refl _) _) (Nat.le_refl _) _) (Nat.le_refl _) _) (Nat.le_refl _) _)
 · obtain ⟨g1,g2⟩:=HE1.out (.inl hR)
   have G1:=hid g1
   have G2:=hid g2
   have hr1:(R != 0)=true:=by rw[bne_iff_ne];exact hR
   clear hR g1 g2
   go_wp2_with fail
   refine bodyPost_ret (v:=.tuple #[.agg #[.int .i64 0,.int .i64 0,.int .i64 0,.int .i64 0,.bool false,.int .u64 0],.bool false]) (za6 Tryz.results274 _ ((((((Q0.out.set_ 0 _).set_ 1 _).set_ 2 _).set_ 3 _).set_ 4 _).set_ 5 _) rfl rfl) rfl ⟨by rw[G1.out,G2.out];rfl,?_⟩
   exact (Below.setCell (p:=⟨w.heap.size,5,none⟩) (Below.setCell (p:=⟨w.heap.size,4,none⟩) (Below.setCell (p:=⟨w.heap.size,3,none⟩) (Below.setCell (p:=⟨w.heap.size,2,none⟩) (Below.setCell (p:=⟨w.heap.size,1,none⟩) (Below.setCell (p:=⟨w.heap.size,0,none⟩) hb1 (Nat.le_refl _) _) (Nat.le_refl _) _) (Nat.le_refl _) _) (Nat.le_refl _) _) (Nat.le_refl _) _) (Nat.le_refl _) _)
end Go.Proofs.YtpcajamacpbjcaaGreat
namespace Go.Proofs.YtpcajamacpbjcaaGreat
open Lib (hid)
open Go.RowKit
set_option maxRecDepth 100000 in
set_option maxHeartbeats 1600000 in
theorem at_c (A:Option Addr) (ws:List Nat) (c n a:Nat) (w:World) (hn:ws.length=n) (hm:n≤1000000) (ha:a+1<n) (hr:RdW w w.heap.size A ws) (ho:∀ x ∈ ws,x<18446744073709551616) :
   Calls Tryz.prog 263 #[.slice A n c,.int .i64 (a:Int)] w fun e w'=>e=.returned (.tuple #[(stB ws a).val,.bool (stands ws a)])∧Below w.heap.size w w':=by
 subst hn
 have HR:=hid hr
 have hx:=ze6 ho a
 have HSP:=hid (fun W=>zxo (wd ws a) W hx)
 obtain ⟨b,off,rfl,hb,h0⟩:=RdW.at_ hr (show a<ws.length by omega)
 obtain ⟨b',off',e',-,h1⟩:=RdW.at_ hr ha
 cases e'
 rw[←zcb] at h0 h1
 have ik0:(0:Int)≤(a:Int):=by omega
 have ik1:(a:Int)<(ws.length:Int):=by omega
 have d1:decide ((a:Int)<0)=false:=by rw[decide_eq_false_iff_not];omega
 have d2:decide ((ws.length:Int)≤(a:Int))=false:=by rw[decide_eq_false_iff_not];omega
 have ik2:(a:Int)+1<(ws.length:Int):=by omega
 have ik3:(0:Int)≤(a:Int)+1:=by omega
 have htn:((a:Int)+1).toNat=a+1:=by omega
 have hraw:(zaf (wd ws a)).val=.agg #[.int .i64 0,.int .i64 ((szAt ws a:Nat):Int),.int .i64 ((wd ws a % 256:Nat):Int),.int .i64 ((wd ws a / 512 % 128:Nat):Int),.bool (wd ws a / 256 % 2 == 1),.int .u64 0]:=rfl
 have hbk:(bkAt ws a).val=.agg #[.int .i64 (a:Int),.int .i64 ((szAt ws a:Nat):Int),.int .i64 ((wd ws a % 256:Nat):Int),.int .i64 ((wd ws a / 512 % 128:Nat):Int),.bool (wd ws a / 256 % 2 == 1),.int .u64 ((wd ws (a+1):Nat):Int)]:=rfl
 have hsb:szAt ws a<65536:=Nat.mod_lt _ (by omega)
 have HST:Hid (stands ws a=(zar (wd ws a) && decide ((szAt ws a:Int)≤(ws.length:Int) - a))):=hid rfl
 have HNO:Hid (stands ws a=false→stB ws a=zlv):=hid fun h=>(zAx h).1
 have HOK:Hid (stands ws a=true→stB ws a=bkAt ws a):=hid fun h=>(zy3 h).1
 cases hs:zar (wd ws a)
 · have h2:stands ws a=false:=by rw[HST.out,hs];rfl
   have G1:=hid (HNO.out h2)
   have G2:=hid h2
   obtain ⟨s1,s2⟩:=zln hs
   rw[s1,hs] at HSP
   clear hr hraw hbk hs h2 s1 s2 hx
   unfold Bk.val zlv at HSP
   dsimp only at HSP
   obtain ⟨x,hx⟩:∃ x,wd ws a=x:=⟨_,rfl⟩
   rw[hx] at h0 HSP
   clear hx
   go_enter Tryz.func263,Tryz.ntmps263
   go_wp2_with fail
   refine (HSP.out _).mono ?_
   rintro e w1 ⟨rfl,hB1⟩
   rw[World.size_alloc] at hB1
   have bx:=Bx.of_new hB1
   have hb1:=zan hB1
   have Q0:=hid bx
   obtain ⟨c0,c1,c2,c3,c4,c5,cf,cz⟩:=bx.c6
   have cf0:=cf 0
   have cf1:=cf 1
   have cf2:=cf 2
   have cf3:=cf 3
   have cf4:=cf 4
   have cf5:=cf 5
   clear bx cf hB1
   go_wp2_with fail
   refine bodyPost_ret (v:=.tuple #[.agg #[.int .i64 0,.int .i64 0,.int .i64 0,.int .i64 0,.bool false,.int .u64 0],.bool false]) (za6 Tryz.results263 _ ((zlf Q0.out _ _ _ _ _ _).alloc _) rfl rfl) rfl ⟨by rw[G1.out,G2.out];rfl,(zfd hb1 (Nat.le_refl _) _ _ _ _ _ _).alloc (by simp;have:=hb1.size;omega) _⟩
 · obtain ⟨s1,s2⟩:=zlq hs
   rw[s1,hraw,hs] at HSP
   have HBK:=hid hbk
   obtain ⟨S,hS⟩:∃ S,szAt ws a=S:=⟨_,rfl⟩
   obtain ⟨K,hK⟩:∃ K,wd ws a % 256=K:=⟨_,rfl⟩
   obtain ⟨T,hT⟩:∃ T,wd ws a / 512 % 128=T:=⟨_,rfl⟩
   obtain ⟨M,hM⟩:∃ M,(wd ws a / 256 % 2 == 1)=M:=⟨_,rfl⟩
   rw[hS,hK,hT,hM] at HSP HBK
   rw[hS] at hsb HST
   rw[hs,Bool.true_and] at HST
   obtain ⟨x,hx2⟩:∃ x,wd ws a=x:=⟨_,rfl⟩
   obtain ⟨y,hy2⟩:∃ y,wd ws (a+1)=y:=⟨_,rfl⟩
   rw[hx2] at h0 HSP
   rw[hy2] at h1 HBK
   clear hr hraw hbk hs s1 s2 hx hS hK hT hM hx2 hy2
   by_cases hbig:(ws.length:Int)<(a:Int)+S
   · have h2:stands ws a=false:=by rw[HST.out,decide_eq_false_iff_not];omega
     have G1:=hid (HNO.out h2)
     have G2:=hid h2
     clear h2
     go_enter Tryz.func263,Tryz.ntmps263
     go_wp2_with fail
     refine (HSP.out _).mono ?_
     rintro e w1 ⟨rfl,hB1⟩
     rw[World.size_alloc] at hB1
     have bx:=Bx.of_new hB1
     have hb1:=zan hB1
     have Q0:=hid bx
     obtain ⟨c0,c1,c2,c3,c4,c5,cf,cz⟩:=bx.c6
     have cf0:=cf 0
     have cf1:=cf 1
     have cf2:=cf 2
     have cf3:=cf 3
     have cf4:=cf 4
     have cf5:=cf 5
     clear bx cf hB1
     go_wp2_with fail
     refine bodyPost_ret (v:=.tuple #[.agg #[.int .i64 0,.int .i64 0,.int .i64 0,.int .i64 0,.bool false,.int .u64 0],.bool false]) (za6 Tryz.results263 _ ((zlf Q0.out _ _ _ _ _ _).alloc _) rfl rfl) rfl ⟨by rw[G1.out,G2.out];rfl,(zfd hb1 (Nat.le_refl _) _ _ _ _ _ _).alloc (by simp;have:=hb1.size;omega) _⟩
   · have h2:stands ws a=true:=by rw[HST.out,decide_eq_true_iff];omega
     have G1:=hid (HOK.out h2)
     have G2:=hid h2
     have hle:(a:Int)+S≤(ws.length:Int):=by omega
     clear h2 hbig
     go_enter Tryz.func263,Tryz.ntmps263
     go_wp2_with fail
     refine (HSP.out _).mono ?_
     rintro e w1 ⟨rfl,hB1⟩
     rw[World.size_alloc] at hB1
     have bx:=Bx.of_new hB1
     have hb1:=zan hB1
     have Q0:=hid bx
     obtain ⟨c0,c1,c2,c3,c4,c5,cf,cz⟩:=bx.c6
     have cf0:=cf 0
     have cf1:=cf 1
     have cf2:=cf 2
     have cf3:=cf 3
     have cf4:=cf 4
     have cf5:=cf 5
     clear bx cf hB1
     have hbw:b<w1.heap.size:=by have:=hb1.size;omega
     have h1':=(hb1.cell (p:=⟨b,off+(a+1),none⟩) hb).trans h1
     have hwr:IntKind.i64.wrap ((a:Int)+1)=(a:Int)+1:=IntWalk.i64_in _ (by omega)
     go_wp2_with fail
     refine bodyPost_ret (v:=.tuple #[.agg #[.int .i64 (a:Int),.int .i64 (S:Int),.int .i64 (K:Int),.int .i64 (T:Int),.bool M,.int .u64 (y:Int)],.bool true]) (za6 Tryz.results263 _ ((zlf Q0.out _ _ _ _ _ _).alloc _) rfl rfl) rfl ⟨by rw[G1.out,G2.out,HBK.out],(zfd hb1 (Nat.le_refl _) _ _ _ _ _ _).alloc (by simp;have:=hb1.size;omega) _⟩
end Go.Proofs.YtpcajamacpbjcaaGreat
namespace Go.Proofs.YtpcajamacpbjcaaGreat
open Lib (hid)
open Go.RowKit
def zsk (ws:List Nat) (a:Nat):List Bk:=(blocks ws a).getD []
def zFg (ws:List Nat) (a:Nat) (e:Ending) (w':World):Prop:=∃ A c,e=.returned (.tuple #[.slice A (zsk ws a).length c,.bool (blocks ws a).isSome])∧RdB w' w'.heap.size A (zsk ws a)∧(zsk ws a).length≤c
def rtF (ws:List Nat) (i j:Nat):Value:=.bool (decide (i≤j∧j % 2=0) && (blocks ws j).isSome)
theorem zFo {ws:List Nat} {a:Nat} {w':World} (h:blocks ws a=none):zFg ws a (.returned (.tuple #[.slice none 0 0,.bool false])) w':=by
 have:zsk ws a=[]:=by simp[zsk,h]
 exact ⟨none,0,by rw[this,h];rfl,by rw[this];exact Rd.nil_,by rw[this];simp⟩
theorem zzc {H:Nat} {ws:List Nat} {a:Nat} {v:Value} {w':World} {l:List Bk} (h0:blocks ws a=some l) (h:w'.ownsRow H 55 6 v l.length (l.flatMap Bk.cells)):zFg ws a (.returned (.tuple #[v,.bool true])) w':=by
 have hl:zsk ws a=l:=by simp[zsk,h0]
 have hc:∃ A c,v=.slice A l.length c∧l.length≤c:=by
  rcases h.2 with ⟨rfl,hnil⟩|⟨g,cap,cur,rfl,_,_,hle,_⟩
  · exact ⟨none,0,by rw[hnil],by omega⟩
  · exact ⟨_,_,rfl,hle⟩
 obtain ⟨A,c,rfl,hle⟩:=hc
 exact ⟨A,c,by rw[hl,h0];rfl,by rw[hl];exact Rd.of_own h,by rw[hl];exact hle⟩
theorem zDb (ws:List Nat) (m:Nat) (hm:m=ws.length+1) (he:ws.length % 2=0) {w:World} {g:Nat} (h:w.rowIs g 4 m (fun _=>.bool false)):(w.setCell ⟨g,ws.length,none⟩ (.bool true)).rowIs g 4 m (rtF ws ws.length):=
 (h.set ws.length (.bool true)).congr fun i hi=>by
  unfold rtF
  by_cases e:i=ws.length
  · subst e
    rw[zaq (Nat.le_refl _)];simp[he]
  · rw[if_neg e]
    have:decide (ws.length≤i∧i % 2=0)=false:=by rw[decide_eq_false_iff_not];omega
    rw[this];rfl
theorem zum (ws:List Nat) (m i:Nat) (he:i % 2=0) {w:World} {g:Nat} (h:w.rowIs g 4 m (rtF ws (i+2))):(w.setCell ⟨g,i,none⟩ (.bool (blocks ws i).isSome)).rowIs g 4 m (rtF ws i):=
 (h.set i _).congr fun j _=>by
  unfold rtF
  by_cases e:j=i
  · subst e;simp[he]
  · rw[if_neg e]
    congr 2
    rw[decide_eq_decide]
    omega
theorem zAr:(Tryz.prog.info? 4).map (fun i=>(i.zero,i.size,i.bytes))=some (some (.bool false),1,1):=by kernel_rfl
set_option maxRecDepth 100000 in
set_option maxHeartbeats 2000000 in
theorem zE8 (A:Option Addr) (ws:List Nat) (c n a:Nat) (w:World) (hn:ws.length=n) (hm:n≤100000) (he:n % 2=0) (ha:a≤n) (ha2:a % 2=0) (hr:RdW w w.heap.size A ws) (ho:∀ x ∈ ws,x<18446744073709551616) :
  Calls Tryz.prog 213 #[.slice A n c,.int .i64 (a:Int)] w fun e w'=>zFg ws a e w'∧Below w.heap.size w w':=by
 subst hn
 have HR:=hid hr
 have HO:=hid ho
 obtain ⟨m,hmm⟩:∃ m,m=ws.length+1:=⟨_,rfl⟩
 have hmk:(Instr.makeSlice 114 (.int .i64 ((ws.length:Int)+1)) (.int .i64 ((ws.length:Int)+1))).run Tryz.prog w=.ok (.slice (some ⟨w.heap.size,0,none⟩) m m) (w.alloc (.cells (madeCells #[.bool false] m) 4)):=by
  have:=run_make_row' (P:=Tryz.prog) 114 4 (.bool false) 1 Tryz.underlying114 zAr rfl .i64 .i64 m (by omega) (by omega) w
  rw[show ((m:Nat):Int)=(ws.length:Int)+1 by omega] at this
  exact this
 have r0:=World.rowIs_made w (.bool false) m 4
 have hb0:Below w.heap.size w (w.alloc (.cells (madeCells #[.bool false] m) 4)):=(Below.refl _ _).alloc (Nat.le_refl _) _
 have hz0:(w.alloc (.cells (madeCells #[.bool false] m) 4)).heap.size=w.heap.size+1:=by simp
 obtain ⟨W0,hW0⟩:∃ W0,w.alloc (.cells (madeCells #[.bool false] m) 4)=W0:=⟨_,rfl⟩
 rw[hW0] at hmk r0 hb0 hz0
 have HMM:=hid hmm
 have c0:=r0.cell (i:=ws.length) (by omega)
 have f0:=r0.frozen ws.length
 have R1:=hid (zDb ws m hmm he r0)
 have hlm:(ws.length:Int)<(m:Int):=by omega
 have HE:=hid he
 have HA2:=hid ha2
 have HZ0:=hid hz0
 have HB0:=hid hb0
 clear hr ho hmm hW0 r0 he ha2 hz0 hb0
 go_enter Tryz.func213,Tryz.ntmps213
 go_wp2_with fail
 go_loopw [7] (fun p wr=>∃ k:Nat,k≤ws.length∧a≤k∧k % 2=0∧p=.int .i64 ((k:Int) - 2)∧wr.rowIs w.heap.size 4 m (rtF ws k)∧Below w.heap.size w wr) (fun p _=>(intOf p+2).toNat)
 case atStart=>exact ⟨ws.length,Nat.le_refl _,ha,HE.out,rfl,R1.out,HB0.out.setCell (Nat.le_refl _) _⟩
 case round =>
  obtain ⟨k,q1,q2,q3,rfl,hrow,hB⟩:=hrel
  have hz:=hB.size
  by_cases hlt:a+2≤k
  · obtain ⟨i,rfl⟩:∃ i,k=i+2:=⟨k - 2,by omega⟩
    rw[show (((i+2:Nat):Int) - 2)=(i:Int) by omega]
    have hi2:i % 2=0:=by omega
    have HI2:=hid hi2
    have g1:(a:Int)≤(i:Int):=by omega
    have g2:(0:Int)≤(i:Int):=by omega
    have HC:=hid (at_c A ws c ws.length i wr rfl (by omega) (by omega) (HR.out.up hB hz) HO.out)
    cases hst:stands ws i
    · have HN:=hid (show (blocks ws i).isSome=false by rw[zc0 (by omega) hst];rfl)
      rw[(zAx hst).1,hst] at HC
      unfold zlv Bk.val at HC
      dsimp only at HC
      have HROW:=hid hrow
      clear hst q3 hi2 hrow
      go_wp2_with fail
      refine HC.out.mono ?_
      rintro e w1 ⟨rfl,hB1⟩
      have hr1:=(zns HROW.out hB1 HROW.out.lt).alloc (.cells #[.int .i64 0,.int .i64 0,.int .i64 0,.int .i64 0,.bool false,.int .u64 0] 55)
      have hb1:=((hB.trans (hB1.mono hz)).alloc (Nat.le_trans hz hB1.size) (.cells #[.int .i64 0,.int .i64 0,.int .i64 0,.int .i64 0,.bool false,.int .u64 0] 55))
      have hlm2:i<m:=by omega
      have e1:=hr1.cell hlm2
      have e2:=hr1.frozen i
      unfold rtF at e1
      obtain ⟨q,hq⟩:∃ q,(decide (i+2≤i∧i % 2=0) && (blocks ws i).isSome)=q:=⟨_,rfl⟩
      rw[hq] at e1
      have HR1:=hid (zum ws m i HI2.out hr1)
      rw[HN.out] at HR1
      have HB1:=hid hb1
      clear hr1 hb1 hq hB1
      go_wp2_with fail
      go_roundw
      case rel=>exact ⟨i,by omega,by omega,HI2.out,by go_num,HR1.out,HB1.out.setCell (Nat.le_refl _) _⟩
      case measure=>simp[intOf];omega
    · have hsz:=zav hst
      have HN:=hid (show (blocks ws i).isSome=(blocks ws (i+szAt ws i)).isSome by rw[zaz (by omega) hst,Option.isSome_map])
      have hbk:(bkAt ws i).val=.agg #[.int .i64 (i:Int),.int .i64 ((szAt ws i:Nat):Int),.int .i64 ((wd ws i % 256:Nat):Int),.int .i64 ((wd ws i / 512 % 128:Nat):Int),.bool (wd ws i / 256 % 2 == 1),.int .u64 ((wd ws (i+1):Nat):Int)]:=rfl
      rw[(zy3 hst).1,hst,hbk] at HC
      have HSE:=hid (show (i+szAt ws i) % 2=0 by omega)
      obtain ⟨S,hS⟩:∃ S,szAt ws i=S:=⟨_,rfl⟩
      obtain ⟨K,hK⟩:∃ K,((wd ws i % 256:Nat):Int)=K:=⟨_,rfl⟩
      obtain ⟨T,hT⟩:∃ T,((wd ws i / 512 % 128:Nat):Int)=T:=⟨_,rfl⟩
      obtain ⟨M,hM⟩:∃ M,(wd ws i / 256 % 2 == 1)=M:=⟨_,rfl⟩
      obtain ⟨X,hX⟩:∃ X,((wd ws (i+1):Nat):Int)=X:=⟨_,rfl⟩
      rw[hS] at HN hsz HSE
      rw[hS,hK,hT,hM,hX] at HC
      obtain ⟨z1,z2,z3⟩:=hsz
      have HROW:=hid hrow
      clear hst hi2 hrow hbk hS hK hT hM hX z2
      go_wp2_with fail
      refine HC.out.mono ?_
      rintro e w1 ⟨rfl,hB1⟩
      have hr1:=(zns HROW.out hB1 HROW.out.lt).alloc (.cells #[.int .i64 (i:Int),.int .i64 (S:Int),.int .i64 K,.int .i64 T,.bool M,.int .u64 X] 55)
      have hb1:=((hB.trans (hB1.mono hz)).alloc (Nat.le_trans hz hB1.size) (.cells #[.int .i64 (i:Int),.int .i64 (S:Int),.int .i64 K,.int .i64 T,.bool M,.int .u64 X] 55))
      have hlm2:i<m:=by omega
      have hlm3:i+S<m:=by omega
      have htn:((i:Int)+(S:Int)).toNat=i+S:=by omega
      have hub:(i:Int)+(S:Int)<(m:Int):=by omega
      have hlb:(0:Int)≤(i:Int)+(S:Int):=by omega
      have hbn:=Bx.new w1 55 #[.int .i64 (i:Int),.int .i64 (S:Int),.int .i64 K,.int .i64 T,.bool M,.int .u64 X]
      have e0:(w1.alloc (.cells #[.int .i64 (i:Int),.int .i64 (S:Int),.int .i64 K,.int .i64 T,.bool M,.int .u64 X] 55)).cell? ⟨w1.heap.size,1,none⟩=some (.int .i64 (S:Int)):=hbn.cell 1
      have e1:=hr1.cell hlm2
      have e2:=hr1.frozen i
      have e3:=hr1.cell hlm3
      unfold rtF at e1 e3
      rw[show decide (i+2≤i+S∧(i+S) % 2=0)=true by rw[decide_eq_true_iff];exact ⟨by omega,HSE.out⟩,Bool.true_and,←HN.out] at e3
      obtain ⟨q,hq⟩:∃ q,(decide (i+2≤i∧i % 2=0) && (blocks ws i).isSome)=q:=⟨_,rfl⟩
      rw[hq] at e1
      have HR1:=hid (zum ws m i HI2.out hr1)
      obtain ⟨r,hr⟩:∃ r,(blocks ws i).isSome=r:=⟨_,rfl⟩
      rw[hr] at HR1 e3
      have HB1:=hid hb1
      clear hr1 hb1 hq hB1 hr hbn
      obtain ⟨w2,hw2⟩:∃ w2,(w1.alloc (.cells #[.int .i64 (i:Int),.int .i64 (S:Int),.int .i64 K,.int .i64 T,.bool M,.int .u64 X] 55))=w2:=⟨_,rfl⟩
      rw[hw2] at e0 e1 e2 e3 HR1 HB1
      go_wp2_with fail
      go_roundw
      case rel=>exact ⟨i,by omega,by omega,HI2.out,by go_num,HR1.out,HB1.out.setCell (Nat.le_refl _) _⟩
      case measure=>simp[intOf];omega
  · obtain rfl:k=a:=by have:=HA2.out;omega
    have hlt2:(k:Int) - 2<(k:Int):=by omega
    have hlm2:k<m:=by omega
    have e1:=hrow.cell hlm2
    have ik:(k:Int)<(m:Int):=by omega
    have ik0:(0:Int)≤(k:Int):=by omega
    unfold rtF at e1
    rw[show decide (k≤k∧k % 2=0)=true by rw[decide_eq_true_iff];exact ⟨Nat.le_refl _,q3⟩,Bool.true_and] at e1
    have d1:decide ((k:Int)<0)=false:=by rw[decide_eq_false_iff_not];omega
    have d2:decide ((ws.length:Int)<(k:Int))=false:=by rw[decide_eq_false_iff_not];omega
    have d2n:decide (ws.length<k)=false:=by rw[decide_eq_false_iff_not];omega
    clear hlt q3 hrow
    cases hbl:blocks ws k with
    | none =>
      rw[hbl] at e1
      have HN:=hid hbl
      rw[show (none:Option (List Bk)).isSome=false from rfl] at e1
      clear hbl
      go_wp2_with fail
      go_ret2
      exact ⟨zFo HN.out,hB⟩
    | some l =>
      rw[hbl] at e1
      have HSO:=hid hbl
      rw[show (some l).isSome=true from rfl] at e1
      clear hbl
      have HB0':=hid hB
      clear hB
      obtain ⟨i2,hi,hz0,hz1,hz2⟩:=info_parts zjr
      have HJ:=hid hi
      have HJ0:=hid hz0
      have HJ1:=hid hz1
      have HJ2:=hid hz2
      clear hi hz0 hz1 hz2
      go_wp2_with fail
      clear e1
      go_loopw [1,10] (fun p v wr=>∃ (i:Nat) (acc:List Bk),p=.int .i64 i∧i≤ws.length∧i % 2=0∧blocks ws k=(blocks ws i).map (acc ++ ·)∧acc.length≤i∧wr.ownsRow w.heap.size 55 6 v acc.length (acc.flatMap Bk.cells)∧Below w.heap.size w wr) (fun p _ _=>ws.length - (intOf p).toNat)
      case atStart=>exact ⟨k,[],rfl,ha,HA2.out,by simp,by simp,World.ownsRow_nil _ _ _ _,HB0'.out⟩
      case round =>
       obtain ⟨i,acc,rfl,q2,q3,q4,q5,hown,hB⟩:=hrel
       have hz:=hB.size
       have HQ3:=hid q3
       have HQ4:=hid q4
       clear q4
       by_cases hlt:i<ws.length
       · have hlt1:i+1<ws.length:=by have:=HE.out;omega
         clear q3
         have hst:stands ws i=true:=by
          cases h:stands ws i with
          | true=>rfl
          | false=>have:=HQ4.out;rw[zc0 hlt h,HSO.out] at this;cases this
         have hsz:=zav hst
         have HC:=hid (at_c A ws c ws.length i wr rfl (by omega) hlt1 (HR.out.up hB hz) HO.out)
         rw[(zy3 hst).1,hst] at HC
         have HNX:=hid (show blocks ws k=(blocks ws (i+szAt ws i)).map ((acc++[bkAt ws i]) ++ ·) by
          rw[HQ4.out,zaz hlt hst]
          cases blocks ws (i+szAt ws i) <;> simp)
         have HFL:=hid (zb6 Bk.cells acc (bkAt ws i))
         have hss:=zba ws i
         obtain ⟨x,hx⟩:∃ x,bkAt ws i=x:=⟨_,rfl⟩
         obtain ⟨z,hzz⟩:∃ z,szAt ws i=z:=⟨_,rfl⟩
         rw[hx] at HC HNX HFL hss
         rw[hzz] at HNX hsz hss
         have HX:=hid hx
         obtain ⟨xa,xs,xk,xt,xm,xn⟩:=x
         dsimp only at hss
         subst hss
         unfold Bk.val at HC
         dsimp only at HC
         obtain ⟨z1,z2,z3⟩:=hsz
         have HZ2:=hid z2
         clear hst hx hzz z2
         go_wp2_with fail
         refine HC.out.mono ?_
         rintro e w1 ⟨rfl,hB1⟩
         have hb1:=hB.trans (hB1.mono hz)
         have hownw:=zak hown hB1 (Nat.le_refl _)
         have hz1:=hb1.size
         go_wp2_with (at_builtin;refine wpList_append_own _ rfl _ _ 48 rfl w.heap.size 55 i2 _ 6 48 Tryz.underlying48 HJ.out HJ0.out HJ1.out HJ2.out rfl (by decide) _ _ _ rfl ((hownw.alloc _).alloc _) ⟨_,0,none⟩ 1 1 [.int .i64 xa,.int .i64 (z:Int),.int .i64 xk,.int .i64 xt,.bool xm,.int .u64 (xn:Int)] rfl rfl (zk4 _ _ _ (World.size_alloc _ _)) (by simp[Value.oneCell']) (by unfold maxLen;omega) (by omega) (by simp;omega) ?_;intro v1 w2 hown1 hg1 _;have hbx:Bx w2 w1.heap.size 55 #[.int .i64 xa,.int .i64 (z:Int),.int .i64 xk,.int .i64 xt,.bool xm,.int .u64 (xn:Int)]:=((Bx.new w1 55 _).alloc _).grown hg1 (zqr hownw);have hB2:=zaw (hb1.alloc hz1 (.cells #[.int .i64 xa,.int .i64 (z:Int),.int .i64 xk,.int .i64 xt,.bool xm,.int .u64 (xn:Int)] 55)) (by simp;omega) (hownw.alloc _) hg1;have hc1:w2.cell? ⟨w1.heap.size,1,none⟩=some (.int .i64 (z:Int)):=hbx.cell 1;have hf1:=hbx.frozen 1;have hl1:=hbx.lt;clear hg1 hbx)
         go_roundw
         case rel=>exact ⟨i+z,acc++[⟨xa,(z:Int),xk,xt,xm,xn⟩],by rw[Int.natCast_add],by omega,by have:=HQ3.out;have:=HZ2.out;omega,HNX.out,by simp;omega,by rw[HFL.out,List.length_append];exact hown1,hB2⟩
         case measure=>simp[intOf];omega
       · have hi:i=ws.length:=by omega
         have HD:=hid (show blocks ws k=some acc by rw[HQ4.out,zaq (by omega)];simp)
         clear hi q3
         go_wp2_with fail
         go_ret2
         exact ⟨zzc HD.out hown,hB⟩
end Go.Proofs.YtpcajamacpbjcaaGreat
