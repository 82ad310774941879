/- Texts laid together: LyQ CpE CpG CpH CpI. -/
import Derived.Test.YtpcajamacpbjcaaGreatZKR19
import Derived.Test.YtpcajamacpbjcaaGreatZKCp1
namespace Go.Proofs.YtpcajamacpbjcaaGreat
open Go.RowKit
structure Lay (ws:List Nat) (t:Nat):Prop where
 size:zah (ws.length:Int)=true
 ty:tyN ws=some t
 z16:∀ i,16≤i→i<32→wd ws i=0
 tys:zgg ws t=true
 sls:slsOk ws=true
 hp:zae ws=0
 adj:ziw (zab ws)=true
 wr:∀ r,7≤r→r<12→∀ b ∈ za1 (zab ws),wrK ws (zfl ws t 8) (za1 (zab ws)) r b=false
 sl:∀ i,i<16→zih (za1 (zab ws)) (slAt ws i)=true
theorem zpk {ws:List Nat} {t:Nat} (h:tyN ws=some t):zah (ws.length:Int)=true:=by
 cases hs:zah (ws.length:Int) with
 | true=>rfl
 | false=>rw[(zth hs).1] at h;cases h
theorem zj5 (ws:List Nat) (T:List (List Nat)) (O:List Bk) (r a z ty:Nat) (k:Int) (mk:Bool) (nx:Nat):wrK ws T O r ⟨(a:Int),(z:Int),k,(ty:Int),mk,nx⟩=wrB ws T O a z ty mk nx r:=by
 unfold wrK
 simp only[Int.toNat_natCast]
theorem ztl {ws:List Nat} {t i:Nat} (ht:t≤8) (hi:i<t):(zfl ws t 8)[i]? = some (zbd (wd ws (96+2 * i)) (wd ws (96+2 * i+1))):=by
 unfold zfl
 rw[Nat.min_eq_left ht,List.getElem?_map,List.getElem?_eq_getElem (by rw[List.length_range];exact hi)]
 simp
theorem lay_hp {ws:List Nat} {t:Nat} {l:List Bk} (ht:tyN ws=some t) (hl:blocks ws 128=some l) (hty:zgg ws t=true) (h8:∀ b ∈ za1 l,wrK ws (zfl ws t 8) (za1 l) 8 b=false):zae ws=0∧zab ws=l:=by
 refine ze7 (zpk ht) hl ?_
 rw[List.all_eq_true]
 intro b hb
 by_cases hk:b.kind=1
 · have hbo:b ∈ za1 l:=List.mem_filter.2 ⟨hb,by rw[beq_iff_eq];exact hk⟩
   have h:=h8 b hbo
   obtain ⟨a,z,ty,nx,mk,e,a1,a2,a3,a4,a5⟩:=zf9 hl hbo
   rw[zh4 hk]
   rw[e] at h
   rw[zj5] at h
   have h:(!decide (ty<(zfl ws t 8).length) || za8 (((zfl ws t 8)[ty]?).getD []).length != z)=false:=h
   rw[Bool.or_eq_false_iff] at h
   have ht8:=zr6 ht
   have htt:ty<t:=by
    have:=h.1
    rw[zp1] at this
    simp at this
    omega
   rw[ztl ht8 htt,Option.getD_some] at h
   have hat:=(zfw ws t).1 hty ty (by omega)
   unfold zAu at hat
   rw[if_pos htt] at hat
   have hz:=h.2
   rw[bne_eq_false_iff_eq] at hz
   have eA:tyA b=96+2 * ty:=by
    rw[e]
    unfold tyA
    simp
   have eS:b.size=(z:Int):=by rw[e]
   rw[eA,hat,eS,←hz]
   simp
 · rw[zd3 hk]
theorem zq3 {ws:List Nat} (h:lay ws=true):∃ t,Lay ws t:=by
 cases ht:tyN ws with
 | none=>rw[zon (.inl ht)] at h;cases h
 | some t =>
  cases hl:blocks ws 128 with
  | none=>rw[zon (.inr hl)] at h;cases h
  | some l =>
   obtain ⟨a1,a2,a3,a4,a5,a6,a7⟩:=(znl ht hl).1 h
   obtain ⟨h1,h2⟩:=lay_hp ht hl a3 (fun b hb=>a6 8 (by omega) (by omega) b hb)
   refine ⟨t,zpk ht,ht,fun i hi1 hi2 => ?_,a3,a4,h1,by rw[h2];exact a5,by rw[h2];exact a6,fun i hi=>by
     rw[h2]
     exact a7 _ (List.mem_map.2 ⟨i,List.mem_range.2 hi,rfl⟩)⟩
   rw[zhu] at a1 a2
   rcases Nat.lt_or_ge i 24 with h3|h3
   · have:=a1 (i - 16) (by omega)
     rwa [show 16+(i - 16)=i by omega] at this
   · have:=a2 (i - 24) (by omega)
     rwa [show 24+(i - 24)=i by omega] at this
section
variable {ws:List Nat} {t:Nat}
theorem Lay.lay (h:Lay ws t):lay ws=true:=by
 have hb:=(zfi h.hp).2.2.2
 rw[znl h.ty hb]
 refine ⟨(zhu _ _).2 fun i hi=>h.z16 _ (by omega) (by omega),(zhu _ _).2 fun i hi=>h.z16 _ (by omega) (by omega),h.tys,h.sls,h.adj,h.wr,fun s hs => ?_⟩
 obtain ⟨i,hi,rfl⟩:=List.mem_map.1 hs
 exact h.sl i (List.mem_range.1 hi)
theorem zl1 (h0:zae ws=0) {v:Nat}:zlx (za1 (zab ws)) v=true↔zep ws v:=by
 unfold zlx
 rw[List.any_eq_true]
 constructor
 · rintro ⟨b,hb,e⟩
   rw[beq_iff_eq] at e
   obtain ⟨h1,h2⟩:=List.mem_filter.1 hb
   rw[beq_iff_eq] at h2
   obtain ⟨k,hk,rfl⟩:=List.getElem_of_mem h1
   obtain ⟨a,e1,e2⟩:=ziy h0 hk h2
   rw[e1,zaa] at e
   obtain rfl:a=v:=by omega
   exact e2
 · intro ho
   obtain ⟨k,hk,e,-⟩:=ho.2.2.2.2.2.2
   exact ⟨bkAt ws v,List.mem_filter.2 ⟨by rw[←e];exact List.getElem_mem hk,by rw[beq_iff_eq];exact ho.2.2.2.2.1⟩,by rw[beq_iff_eq,zaa]⟩
theorem zKo {a:Nat} (ho:zep ws a):bkAt ws a ∈ za1 (zab ws):=by
 obtain ⟨k,hk,e,-⟩:=ho.2.2.2.2.2.2
 exact List.mem_filter.2 ⟨by rw[←e];exact List.getElem_mem hk,by rw[beq_iff_eq];exact ho.2.2.2.2.1⟩
theorem Lay.obj (h:Lay ws t) {a:Nat} (ho:zep ws a):(zaf (wd ws a)).mark=false∧wd ws (a+1)=0∧(zaf (wd ws a)).typ.toNat<t∧(zfl ws t 8)[(zaf (wd ws a)).typ.toNat]? = some (flds ws a)∧szAt ws a=za8 (flds ws a).length∧(∀ r,7≤r→r<12→wrB ws (zfl ws t 8) (za1 (zab ws)) a (szAt ws a) (zaf (wd ws a)).typ.toNat (zaf (wd ws a)).mark (wd ws (a+1)) r=false):=by
 have hm:=zKo ho
 have e2:bkAt ws a=⟨(a:Int),((szAt ws a:Nat):Int),(zaf (wd ws a)).kind,(((zaf (wd ws a)).typ.toNat:Nat):Int),(zaf (wd ws a)).mark,wd ws (a+1)⟩:=by
  have ht:(zaf (wd ws a)).typ=(((zaf (wd ws a)).typ.toNat:Nat):Int):=by
   unfold zaf;dsimp only;omega
  rw[←ht]
  rfl
 have key:∀ r,7≤r→r<12→wrB ws (zfl ws t 8) (za1 (zab ws)) a (szAt ws a) (zaf (wd ws a)).typ.toNat (zaf (wd ws a)).mark (wd ws (a+1)) r=false:=by
  intro r h1 h2
  have:=h.wr r h1 h2 _ hm
  rw[e2,zj5] at this
  exact this
 have h7:((zaf (wd ws a)).mark || decide (0<wd ws (a+1)))=false:=key 7 (by omega) (by omega)
 rw[Bool.or_eq_false_iff,decide_eq_false_iff_not] at h7
 have h8:(!decide ((zaf (wd ws a)).typ.toNat<(zfl ws t 8).length) || za8 (((zfl ws t 8)[(zaf (wd ws a)).typ.toNat]?).getD []).length != szAt ws a)=false:=key 8 (by omega) (by omega)
 rw[Bool.or_eq_false_iff,bne_eq_false_iff_eq] at h8
 have ht8:=zr6 h.ty
 have htt:(zaf (wd ws a)).typ.toNat<t:=by
  have:=h8.1
  rw[zp1] at this
  simp at this
  omega
 have hg:=ztl (ws:=ws) ht8 htt
 rw[hg,Option.getD_some] at h8
 exact ⟨h7.1,by omega,htt,hg,h8.2.symm,key⟩
theorem Lay.ref (h:Lay ws t) {a i:Nat} (ho:zep ws a) (hi:(flds ws a)[i]? = some 3) (hv:wd ws (a+2+i)≠0):zep ws (wd ws (a+2+i)):=by
 obtain ⟨-,-,-,h4,-,h6⟩:=h.obj ho
 have h11:=h6 11 (by omega) (by omega)
 have h11:((List.range (((zfl ws t 8)[(zaf (wd ws a)).typ.toNat]?).getD []).length).any fun i=>wrF ws (((zfl ws t 8)[(zaf (wd ws a)).typ.toNat]?).getD []) (za1 (zab ws)) a 11 i)=false:=h11
 rw[h4,Option.getD_some,List.any_eq_false] at h11
 have hlt:=(List.getElem?_eq_some_iff.1 hi).1
 have:=h11 i (List.mem_range.2 hlt)
 unfold wrF at this
 rw[if_neg (by decide),hi] at this
 simp only[beq_self_eq_true,Bool.true_and,Bool.not_eq_true,Bool.and_eq_false_iff,decide_eq_false_iff_not,Bool.not_eq_false'] at this
 rw[←zl1 h.hp]
 rcases this with h5|h5
 · omega
 · exact h5
theorem Lay.slot (h:Lay ws t) {i:Nat} (hi:i<16) (hu:(slAt ws i).used=true):zep ws (slAt ws i).at_.toNat:=by
 have:=h.sl i hi
 unfold zih at this
 rw[hu] at this
 rw[←zl1 h.hp]
 simpa using this
theorem Lay.rch (h:Lay ws t) {a:Nat} (ha:Rch ws a):zep ws a:=by
 induction ha with
 | slot i hi hu=>exact h.slot hi hu
 | ref _ i _ _ hf hv ih =>
  have ho:=h.ref ih hf hv
  have hlt:=ho.2.2.1
  have hb:=(zad _).1 h.size
  rw[Nat.min_eq_left (by omega)]
  exact ho
theorem Lay.rc (h:Lay ws t):zap ws=0:=zEb h.hp h.sls fun _ ha=>(zHp h.hp (h.rch ha)).2
end
end Go.Proofs.YtpcajamacpbjcaaGreat
namespace Go.Proofs.YtpcajamacpbjcaaGreat
open Go.RowKit
def zha (ws:List Nat):List Nat:=zag ws [⟨16,1⟩]
noncomputable def cpZ (ws:List Nat):List Nat:=vE (zha ws)
noncomputable def cpT (ws:List Nat):Nat:=(zat (cpL ws) 128).toNat
theorem zhx (ws:List Nat):(zha ws).length=ws.length:=zau _ _
theorem zlw {ws:List Nat} {i:Nat} (h:i≠16):wd (zha ws) i=wd ws i:=za9 _ _ _ fun e he=>by
 rw[List.mem_singleton] at he
 subst he
 dsimp only
 omega
theorem zzb {ws:List Nat} (ho:∀ v ∈ ws,v<18446744073709551616):∀ v ∈ zha ws,v<18446744073709551616:=zo7 _ _ ho fun e he=>by
 rw[List.mem_singleton] at he
 subst he
 dsimp only
 omega
theorem zG1 (ws:List Nat):NxL ws (zha ws):=zqg fun e he=>by
 rw[List.mem_singleton] at he
 subst he
 exact .inl (by dsimp only;omega)
theorem x1_hp {ws:List Nat} (h0:zae ws=0):zae (zha ws)=0∧zab (zha ws)=zab ws:=by
 obtain ⟨z1,z2⟩:=((zG1 ws).ev h0).heap h0
 refine ⟨z1,?_⟩
 rw[z2,List.map_congr_left (g:=id) (fun b hb => ?_),List.map_id]
 obtain ⟨a,rfl,a1,-⟩:=(zb1 h0).1 b hb
 show nxB (zha ws) (bkAt ws a)=bkAt ws a
 unfold nxB
 refine zty ?_
 rw[zaa,Int.toNat_natCast,zlw (by omega)]
 rfl
theorem zJ0 {ws:List Nat} (h0:zae ws=0):seenL (zha ws)=seenL ws:=by
 unfold seenL
 rw[zhx]
 refine List.map_congr_left fun a _ => ?_
 exact decide_eq_decide.2 ((zG1 ws).rch h0 a)
theorem x1_cp {ws:List Nat} (h0:zae ws=0):cpL (zha ws)=cpL ws∧cpM (zha ws)=cpM ws:=by
 have e:cpL (zha ws)=cpL ws:=by
  unfold cpL
  rw[(x1_hp h0).2]
  refine List.map_congr_left fun b _ => ?_
  unfold mkS zd6
  rw[zJ0 h0]
 exact ⟨e,by unfold cpM;rw[e]⟩
theorem Lay.first {ws:List Nat} {t:Nat} (h:Lay ws t):wd (zha ws) 16=1∧zao (zha ws)=0∧zap (zha ws)=0∧za3 (zha ws)=za3 ws:=by
 have hb:=(zad _).1 h.size
 have h16:wd (zha ws) 16=1:=zje (j:=16) (l:=[]) (by omega) (fun e he=>by cases he)
 obtain ⟨g1,g2,g3⟩:=(zG1 ws).same h.hp
 have hz:=h.z16
 have hpr:zcs (zha ws)=0:=by
  refine zDq (by rw[zhx];exact h.size) ?_ ?_
  · rw[zbn,zhx,h16,zlw (by omega),zlw (by omega),zlw (by omega),zlw (by omega),zlw (by omega),zlw (by omega),zlw (by omega),hz 17 (by omega) (by omega),hz 18 (by omega) (by omega),hz 19 (by omega) (by omega),hz 20 (by omega) (by omega),hz 21 (by omega) (by omega),hz 22 (by omega) (by omega),hz 23 (by omega) (by omega)]
    omega
  · rw[h16,zlw (by omega),zlw (by omega),hz 17 (by omega) (by omega),hz 18 (by omega) (by omega)]
    rfl
 exact ⟨h16,zxu hpr (by omega) (by omega) g1,by rw[g2];exact h.rc,g3⟩
section
variable {ws:List Nat} {t:Nat}
theorem Lay.run (h:Lay ws t) (ho:∀ v ∈ ws,v<18446744073709551616):CpF (zha ws):=by
 obtain ⟨a,b,c,-⟩:=h.first
 exact cpF (zzb ho) a b c
theorem Lay.desc (h:Lay ws t) (ho:∀ v ∈ ws,v<18446744073709551616):CpD ws (cpZ ws) (cpM ws) (cpT ws)∧zat (cpL ws) 128=(cpT ws:Int):=by
 have h0:=h.hp
 obtain ⟨p16,-,hrc,-⟩:=h.first
 obtain ⟨D,E⟩:=(h.run ho).desc hrc
 obtain ⟨e1,e2⟩:=x1_cp h0
 rw[e1,e2] at D
 rw[e1] at E
 change CpD (zha ws) (cpZ ws) (cpM ws) (cpT ws) at D
 refine ⟨?_,E⟩
 have hx:∀ {i:Nat},17≤i→wd (zha ws) i=wd ws i:=fun h=>zlw (by omega)
 have hr:=(zG1 ws).rch h0
 have hsl:∀ i,i<16→slAt (zha ws) i=slAt ws i:=fun i hi=>by unfold slAt;rw[hx (by omega)]
 have hsz:∀ {m:Nat},128≤m→szAt (zha ws) m=szAt ws m:=fun hm=>by unfold szAt;rw[hx (by omega)]
 have hfl:∀ {m:Nat},128≤m→flds (zha ws) m=flds ws m:=fun hm=>by unfold flds;rw[hx (by omega),hx (by omega),hx (by omega)]
 refine ⟨D.len.trans (zhx ws),fun i hi=>(D.low i hi).trans (zlw (by omega)),D.line,fun i hi => ?_,fun p hp => ?_,by rw[←zhx ws];exact D.to,fun hlt => ?_,fun i hi hb hm => ?_⟩
 · rw[D.sl i hi]
   unfold nwS
   rw[hsl i hi]
 · obtain ⟨m,tt,e,q1,q2,q3,q4,q5,q6,q7,q8⟩:=D.obj p hp
   have hm:=(hr m).1 q1
   have h128:=(h.rch hm).1
   rw[hsz h128] at q3 q4 q8
   rw[hx (by omega)] at q5
   rw[hfl h128] at q7 q8
   refine ⟨m,tt,e,hm,q2,q3,q4,q5,q6,fun i hi => ?_,fun i h1 h2 => ?_⟩
   · have:=q7 i hi
     rwa [hx (by omega)] at this
   · have:=q8 i h1 h2
     rwa [hx (by omega)] at this
 · have:=D.free (by rw[zhx];exact hlt)
   rwa [zhx] at this
 · rw[D.rest i hi (by rw[(x1_hp h0).2];exact hb) (fun m hm3 => ?_),hx (by have:=D.to.1;omega)]
   have hm2:=(hr m).1 hm3
   rw[hsz (h.rch hm2).1]
   exact hm m hm2
end
end Go.Proofs.YtpcajamacpbjcaaGreat
namespace Go.Proofs.YtpcajamacpbjcaaGreat
open Go.RowKit
def mvB:List Bk→Int→List Bk
 | [],_=>[]
 | b :: l,s=>if zax b then { b with at_:=s,mark:=false,next:=0 } :: mvB l (s+b.size) else mvB l s
def frB (n T:Nat):List Bk:=if T=n then [] else [{ zc3 (n - T) with at_:=(T:Int) }]
theorem z_free {w z:List Nat} {M:List (Int × Int)} {T:Nat} (D:CpD w z M T) (hs:zah (w.length:Int)=true):blocks z T=some (frB w.length T):=by
 have hb:=(zad _).1 hs
 obtain ⟨t1,t2,t3⟩:=D.to
 unfold frB
 by_cases hne:T=w.length
 · rw[if_pos hne,zaq (by rw[D.len];omega)]
 · rw[if_neg hne]
   obtain ⟨e0,e1⟩:=D.free (by omega)
   have hfr:zhs (zc3 (w.length - T))=true:=zB9 (by omega) (by omega) (by omega)
   have hraw:=ziu hfr
   have hsz:szAt z T=w.length - T:=by
    have e2:(zaf (wd z T)).size=((szAt z T:Nat):Int):=rfl
    rw[e0,hraw] at e2
    have e3:(zc3 (w.length - T)).size=((w.length - T:Nat):Int):=rfl
    dsimp only at e2
    omega
   have hst:stands z T=true:=by
    unfold stands
    rw[e0,ziq hfr,Bool.true_and,decide_eq_true_eq,hraw,D.len]
    show ((w.length - T:Nat):Int)≤_
    omega
   rw[zaz (by rw[D.len];omega) hst,hsz,zaq (by rw[D.len];omega)]
   have hbk:bkAt z T={ zc3 (w.length - T) with at_:=(T:Int) }:=by
    unfold bkAt
    rw[e0,hraw,e1];rfl
   rw[hbk];rfl
theorem zH9 {w z:List Nat} {m t:Nat} (ho:zep w m) (e:wd z t=zcg { zaf (wd w m) with mark:=false }):zaf (wd z t)={ zaf (wd w m) with mark:=false }∧szAt z t=szAt w m∧zar (wd z t)=true:=by
 have hhd:=zr8 (ze4 ho.2.2.2.1) ho.2.2.2.2.1
 have hraw:zaf (wd z t)={ zaf (wd w m) with mark:=false }:=by rw[e,ziu hhd];rfl
 refine ⟨hraw,?_,by rw[e];exact ziq hhd⟩
 have:=congrArg Bk.size hraw
 have e1:(zaf (wd z t)).size=((szAt z t:Nat):Int):=rfl
 have e3:({ zaf (wd w m) with mark:=false }:Bk).size=((szAt w m:Nat):Int):=rfl
 rw[e1,e3] at this
 omega
theorem zFk {w z:List Nat} {M:List (Int × Int)} {T:Nat} (D:CpD w z M T) (h0:zae w=0) (hrc:zap w=0):∀ (l:List Bk) (s:Nat),(∀ p ∈ zal l s,p ∈ M)→(∀ b ∈ l,∃ b0 ∈ zab w,b=mkS w b0)→zat l s=(T:Int)→blocks z s=some (mvB l s++frB w.length T):=by
 intro l
 induction l with
 | nil =>
  intro s _ _ he
  have he:(s:Int)=(T:Int):=he
  obtain rfl:s=T:=by omega
  exact z_free D (zam h0).1
 | cons b l ih =>
  intro s hp hb he
  obtain ⟨b0,hb0,e0⟩:=hb b (by simp)
  obtain ⟨m,em,m1,m2,m3,m4⟩:=(zb1 h0).1 b0 hb0
  simp only[zal] at hp
  simp only[zat] at he
  simp only[mvB]
  by_cases hlv:zax b=true
  · rw[if_pos hlv] at hp he ⊢
    have hbat:b.at_=(m:Int):=by rw[e0,em];exact zaa w m
    have hbsz:b.size=((szAt w m:Nat):Int):=by rw[e0,em];exact zba w m
    have hmem:=hp (b.at_,(s:Int)) (by simp)
    obtain ⟨m',t',e1,q1,q2,q3,q4,q5,q6,-⟩:=D.obj _ hmem
    rw[hbat] at e1
    injection e1 with e1 e2
    obtain rfl:m=m':=by omega
    obtain rfl:s=t':=by omega
    have ho:=znh hrc q1
    obtain ⟨h1,h2,h3⟩:=zH9 ho q5
    have hT:=D.to.2.1
    have hst:stands z s=true:=by
     unfold stands
     rw[h3,Bool.true_and,decide_eq_true_eq,D.len]
     have:(zaf (wd z s)).size=((szAt z s:Nat):Int):=rfl
     rw[this,h2]
     omega
    rw[hbsz] at hp he ⊢
    have ih2:=ih (s+szAt w m) (fun p hp2=>hp p (List.mem_cons_of_mem _ (by rw[show ((s:Int)+((szAt w m:Nat):Int))=((s+szAt w m:Nat):Int) by omega];exact hp2))) (fun c hc=>hb c (List.mem_cons_of_mem _ hc)) (by rw[←he];congr 1)
    rw[zaz (by rw[D.len];omega) hst,h2,ih2]
    have hbk:bkAt z s={ b with at_:=(s:Int),mark:=false,next:=0 }:=by
     unfold bkAt
     rw[h1,q6,e0,em]
     rfl
    rw[hbk,hbsz,show ((s+szAt w m:Nat):Int)=(s:Int)+((szAt w m:Nat):Int) by omega]
    rfl
  · have hlf:zax b=false:=by simpa using hlv
    rw[hlf] at hp he
    simp only[Bool.false_eq_true,if_false] at hp he
    rw[if_neg hlv]
    exact ih s hp (fun c hc=>hb c (List.mem_cons_of_mem _ hc)) he
theorem zk1:∀ {l:List Bk} {s:Int} {b:Bk},b ∈ mvB l s→∃ b0 ∈ l,zax b0=true∧∃ t,b={ b0 with at_:=t,mark:=false,next:=0 }∧(b0.at_,t) ∈ zal l s:=by
 intro l
 induction l with
 | nil=>intro s b h;simp[mvB] at h
 | cons x l ih =>
  intro s b h
  simp only[mvB] at h
  simp only[zal]
  by_cases hx:zax x=true
  · rw[if_pos hx] at h ⊢
    rcases List.mem_cons.1 h with rfl|h
    · exact ⟨x,by simp,hx,s,rfl,by simp⟩
    · obtain ⟨b0,h1,h2,t,h3,h4⟩:=ih h
      exact ⟨b0,List.mem_cons_of_mem _ h1,h2,t,h3,List.mem_cons_of_mem _ h4⟩
  · rw[if_neg hx] at h ⊢
    obtain ⟨b0,h1,h2,t,h3,h4⟩:=ih h
    exact ⟨b0,List.mem_cons_of_mem _ h1,h2,t,h3,h4⟩
theorem zKx:∀ {l:List Bk} {s:Int} {p:Int × Int},p ∈ zal l s→∃ b ∈ mvB l s,b.at_=p.2∧b.kind=1:=by
 intro l
 induction l with
 | nil=>intro s p h;simp[zal] at h
 | cons x l ih =>
  intro s p h
  simp only[zal] at h
  simp only[mvB]
  by_cases hx:zax x=true
  · rw[if_pos hx] at h ⊢
    rcases List.mem_cons.1 h with rfl|h
    · exact ⟨_,List.mem_cons_self ..,rfl,by unfold zax at hx;simp at hx;exact hx.1⟩
    · obtain ⟨b,h1,h2⟩:=ih h
      exact ⟨b,List.mem_cons_of_mem _ h1,h2⟩
  · rw[if_neg hx] at h ⊢
    exact ih h
theorem zB8:∀ {l:List Bk} {s:Int},(∀ b ∈ l,0<b.size)→(∀ p ∈ zal l s,s≤p.2)∧(zal l s).Pairwise (fun p q=>p.2<q.2):=by
 intro l
 induction l with
 | nil=>intro s _;exact ⟨fun p h=>by simp[zal] at h,List.Pairwise.nil⟩
 | cons x l ih =>
  intro s h
  have hx:=h x (by simp)
  simp only[zal]
  by_cases hl:zax x=true
  · rw[if_pos hl]
    obtain ⟨i1,i2⟩:=ih (s:=s+x.size) (fun b hb=>h b (by simp[hb]))
    refine ⟨fun p hp => ?_,List.Pairwise.cons (fun p hp => ?_) i2⟩
    · rcases List.mem_cons.1 hp with rfl|hp
      · exact Int.le_refl _
      · have:=i1 p hp;omega
    · have:=i1 p hp
      dsimp only;omega
  · rw[if_neg hl]
    exact ih (fun b hb=>h b (by simp[hb]))
theorem zyu:∀ {l:List Bk} {s:Int},(∀ b ∈ l,0<b.size)→l.Pairwise (fun a b=>a.at_+a.size≤b.at_)→(∀ b ∈ l,s≤b.at_)→∀ p ∈ zal l s,p.2≤p.1:=by
 intro l
 induction l with
 | nil=>intro s _ _ _ p h;simp[zal] at h
 | cons x l ih =>
  intro s h hp hs p hm
  rw[List.pairwise_cons] at hp
  simp only[zal] at hm
  have hx:=h x (by simp)
  have hsx:=hs x (by simp)
  by_cases hl:zax x=true
  · rw[if_pos hl] at hm
    rcases List.mem_cons.1 hm with rfl|hm
    · exact hsx
    · exact ih (fun b hb=>h b (by simp[hb])) hp.2 (fun b hb=>by have:=hp.1 b hb;omega) p hm
  · rw[if_neg hl] at hm
    exact ih (fun b hb=>h b (by simp[hb])) hp.2 (fun b hb=>hs b (by simp[hb])) p hm
theorem zd9:∀ {M:List (Int × Int)} {a t:Int},M.Pairwise (fun p q=>p.1<q.1)→(ze2 M a=some t↔(a,t) ∈ M):=by
 intro M
 induction M with
 | nil=>intro a t _;simp[ze2]
 | cons p M ih =>
  intro a t h
  rw[List.pairwise_cons] at h
  simp only[ze2]
  by_cases e:p.1=a
  · rw[if_pos e]
    constructor
    · intro h2
      injection h2 with h2
      rw[←e,←h2];simp
    · intro h2
      rcases List.mem_cons.1 h2 with h3|h3
      · rw[←h3]
      · have:=h.1 _ h3
        dsimp only at this
        omega
  · rw[if_neg e,ih h.2]
    constructor
    · exact fun h=>List.mem_cons_of_mem _ h
    · intro h2
      rcases List.mem_cons.1 h2 with h3|h3
      · rw[←h3] at e;exact absurd rfl e
      · exact h3
theorem zK5 {ws:List Nat}:∀ i l,blocks ws i=some l→(∀ b ∈ l,(i:Int)≤b.at_∧0<b.size)∧l.Pairwise (fun a b=>a.at_+a.size≤b.at_):=by
 refine zdb _ (fun i _=>⟨fun b h=>by simp at h,List.Pairwise.nil⟩) (fun i l hi hs hb ih => ?_)
 have hsz:=zav hs
 refine ⟨fun b h => ?_,List.Pairwise.cons (fun b h => ?_) ih.2⟩
 · rcases List.mem_cons.1 h with rfl|h
   · rw[zaa,zba];omega
   · have:=ih.1 b h;omega
 · have:=(ih.1 b h).1
   rw[zaa,zba];omega
section
variable {w z:List Nat} {t:Nat}
theorem zt6 {b:Bk} (h:b ∈ cpL w):∃ b0 ∈ zab w,b=mkS w b0:=by
 unfold cpL at h
 obtain ⟨b0,h1,rfl⟩:=List.mem_map.1 h
 exact ⟨b0,h1,rfl⟩
theorem zJc (h0:zae w=0):(∀ b ∈ cpL w,128≤b.at_∧0<b.size)∧(cpL w).Pairwise (fun a b=>a.at_+a.size≤b.at_):=by
 obtain ⟨h1,h2⟩:=zK5 _ _ (zfi h0).2.2.2
 refine ⟨fun b hb => ?_,?_⟩
 · obtain ⟨b0,hb0,rfl⟩:=zt6 hb
   exact h1 b0 hb0
 · unfold cpL
   rw[List.pairwise_map]
   exact h2
structure CpMv (w:List Nat):Prop where
 fst:(cpM w).map Prod.fst=za3 w
 inc:(cpM w).Pairwise (fun p q=>p.1<q.1)
 snd:(cpM w).Pairwise (fun p q=>p.2<q.2)
 dn:∀ p ∈ cpM w,128≤p.2∧p.2≤p.1
theorem cpMv (h0:zae w=0) (hf:(cpM w).map Prod.fst=za3 w) (hrc:zap w=0):CpMv w:=by
 obtain ⟨h1,h2⟩:=zJc h0
 have hs:=zB8 (l:=cpL w) (s:=128) (fun b hb=>(h1 b hb).2)
 have hd:=zyu (l:=cpL w) (s:=128) (fun b hb=>(h1 b hb).2) h2 (fun b hb=>(h1 b hb).1)
 refine ⟨hf,?_,hs.2,fun p hp=>⟨hs.1 p hp,hd p hp⟩⟩
 have:=zjy hrc
 rw[←hf,List.pairwise_map] at this
 exact this
theorem Lay.mvs (h:Lay w t) (ho:∀ v ∈ w,v<18446744073709551616):CpMv w:=by
 have hf:=zHv h.first.2.2.1 (h.run ho)
 rw[(x1_cp h.hp).2,h.first.2.2.2] at hf
 exact cpMv h.hp hf h.rc
theorem CpMv.to (V:CpMv w) (hrc:zap w=0) {m:Nat} (h:Rch w m):∃ a:Nat,ze2 (cpM w) (m:Int)=some (a:Int)∧128≤a∧a≤m:=by
 obtain ⟨t,ht⟩:=zE9 (M:=cpM w) (a:=(m:Int)) (by rw[V.fst,zd5 hrc];exact ⟨m,rfl,zn4 ((zas hrc).2.2 m h),h⟩)
 have hm:=(zd9 V.inc).1 ht
 have:=V.dn _ hm
 dsimp only at this
 obtain ⟨a,rfl⟩:=Int.eq_ofNat_of_zero_le (show 0≤t by omega)
 exact ⟨a,ht,by omega,by omega⟩
theorem CpMv.rch (V:CpMv w) (hrc:zap w=0) {m a:Int} (h:ze2 (cpM w) m=some a):∃ m':Nat,m=(m':Int)∧Rch w m':=by
 have hm:=(zd9 V.inc).1 h
 have:m ∈ (cpM w).map Prod.fst:=List.mem_map.2 ⟨_,hm,rfl⟩
 rw[V.fst,zd5 hrc] at this
 obtain ⟨m',e,-,h⟩:=this
 exact ⟨m',e,h⟩
end
end Go.Proofs.YtpcajamacpbjcaaGreat
namespace Go.Proofs.YtpcajamacpbjcaaGreat
open Go.RowKit
theorem sp8_eq {w z:List Nat} {a:Nat} (hl:z.length=w.length) (h:∀ i,i<8→wd z (a+i)=wd w (a+i)) (ha:a+8≤w.length):sp8 z a=sp8 w a:=by
 apply List.ext_getElem
 · rw[zlb (by omega),zlb ha]
 · intro i h1 h2
   rw[zlb (by omega)] at h1
   have e:∀ (x:List Nat) (hx:i<(sp8 x a).length),(sp8 x a)[i]=wd (sp8 x a) i:=fun x hx=>by rw[zcb hx]
   rw[e,e,zkf h1,zkf h1,h i h1]
theorem tyN_eq {w z:List Nat} (hl:z.length=w.length) (h:∀ i,i<16→wd z i=wd w i) (hs:zah (w.length:Int)=true):tyN z=tyN w:=by
 have hb:=(zad _).1 hs
 have key:∀ a,a+8≤16→zji z a=zji w a:=fun a ha=>by
  unfold zji
  rw[sp8_eq hl (fun i hi=>h _ (by omega)) (by omega),h _ (by omega),hl]
 unfold tyN
 rw[key 0 (by omega),key 8 (by omega),h 3 (by omega),h 11 (by omega)]
theorem wr_of {z:List Nat} {t:Nat} (h0:zae z=0) (ht8:t≤8) (h:∀ a,zep z a→(zaf (wd z a)).mark=false∧wd z (a+1)=0∧(zaf (wd z a)).typ.toNat<t∧szAt z a=za8 (flds z a).length∧((flds z a).length+2<szAt z a→wd z (a+2+(flds z a).length)=0)∧(∀ i,(flds z a)[i]? = some 2→zs0 (wd z (a+2+i))=true)∧∀ i,(flds z a)[i]? = some 3→wd z (a+2+i)=0∨zep z (wd z (a+2+i))) :
   ∀ r,7≤r→r<12→∀ b ∈ za1 (zab z),wrK z (zfl z t 8) (za1 (zab z)) r b=false:=by
 intro r h7 h12 b hb
 obtain ⟨h1,h2⟩:=List.mem_filter.1 hb
 rw[beq_iff_eq] at h2
 obtain ⟨k,hk,rfl⟩:=List.getElem_of_mem h1
 obtain ⟨a,e1,ho⟩:=ziy h0 hk h2
 have e2:bkAt z a=⟨(a:Int),((szAt z a:Nat):Int),(zaf (wd z a)).kind,(((zaf (wd z a)).typ.toNat:Nat):Int),(zaf (wd z a)).mark,wd z (a+1)⟩:=by
   have ht:(zaf (wd z a)).typ=(((zaf (wd z a)).typ.toNat:Nat):Int):=by
     unfold zaf;dsimp only;omega
   rw[←ht]
   rfl
 rw[e1,e2,zj5]
 obtain ⟨g1,g2,g3,g4,g5,g6,g7⟩:=h a ho
 have hg:(zfl z t 8)[(zaf (wd z a)).typ.toNat]? = some (flds z a):=ztl ht8 g3
 unfold wrB
 rw[hg,Option.getD_some]
 by_cases r7:r=7
 · rw[if_pos r7,g1,g2];rfl
 · rw[if_neg r7]
   by_cases r8:r=8
   · rw[if_pos r8,g4,zp1,Nat.min_eq_left ht8,decide_eq_true g3]
     simp
   · rw[if_neg r8]
     by_cases r9:r=9
     · rw[if_pos r9]
       by_cases hp:(flds z a).length+2<szAt z a
       · rw[g5 hp];simp
       · rw[decide_eq_false hp];rfl
     · rw[if_neg r9,List.any_eq_false]
       intro i _
       unfold wrF
       by_cases r10:r=10
       · rw[if_pos r10]
         by_cases hf:(flds z a)[i]? = some 2
         · rw[g6 i hf];simp
         · rw[show ((flds z a)[i]? == some 2)=false by rw[beq_eq_false_iff_ne];exact hf]
           simp
       · rw[if_neg r10]
         by_cases hf:(flds z a)[i]? = some 3
         · rcases g7 i hf with h5|h5
           · rw[h5];simp
           · rw[(zl1 h0).2 h5];simp
         · rw[show ((flds z a)[i]? == some 3)=false by rw[beq_eq_false_iff_ne];exact hf]
           simp
theorem zJg {l:List Bk} {n T:Nat} (h:∀ b ∈ l,b.kind=1):ziw (l++frB n T)=true:=by
 rw[zkh]
 intro j hj
 unfold zmm
 by_cases h0:j=0
 · subst h0;rfl
 · have hlen:(frB n T).length≤1:=by unfold frB;split <;> simp
   rw[List.length_append] at hj
   have hj1:j - 1<l.length:=by omega
   have e:gk (l++frB n T) (j - 1)=l[j - 1]:=by
    unfold gk
    rw[List.getElem?_append_left hj1,List.getElem?_eq_getElem hj1,Option.getD_some]
   rw[e,h _ (List.getElem_mem hj1)]
   simp
section
variable {w z:List Nat} {t:Nat}
structure CpR (w z:List Nat) (t:Nat):Prop where
 L:Lay w t
 D:CpD w z (cpM w) (cpT w)
 E:zat (cpL w) 128=(cpT w:Int)
 V:CpMv w
theorem CpR.hp (R:CpR w z t):zae z=0∧zab z=mvB (cpL w) 128++frB w.length (cpT w):=by
 have h0:=R.L.hp
 have hb:=zFk R.D h0 R.L.rc (cpL w) 128 (fun p hp=>hp) (fun b hb=>zt6 hb) R.E
 refine ze7 (by rw[R.D.len];exact R.L.size) hb ?_
 rw[List.all_eq_true]
 intro b hbm
 rcases List.mem_append.1 hbm with hbm|hbm
 · obtain ⟨b1,h1,h2,tt,rfl,-⟩:=zk1 hbm
   obtain ⟨b0,h3,rfl⟩:=zt6 h1
   obtain ⟨h4,l,h5,h6,h7⟩:=zam h0
   rw[List.all_eq_true] at h6
   have hfit:=h6 b0 (by rw[←h7];exact h3)
   have hk:b0.kind=1:=by
     unfold zax mkS at h2
     simp at h2
     exact h2.1
   have hty:=zgo h5 (by omega) b0 (by rw[←h7];exact h3) hk
   have hk0:0≤b0.typ∧b0.typ<8:=by
     obtain ⟨k,hk2,rfl⟩:=List.getElem_of_mem h3
     exact zgp (zfi h0).2.2.2 (by omega) hk2 hk
   unfold zds zc2 at hfit ⊢
   show (b0.kind != 1 || (zb7 (wd z (tyA b0)) (wd z (tyA b0+1)) && b0.size == ((za8 (wd z (tyA b0) % 256):Nat):Int)))=true
   rw[R.D.low _ (by unfold tyA;omega),R.D.low _ (by unfold tyA;omega)]
   exact hfit
 · unfold frB at hbm
   split at hbm
   · cases hbm
   · rw[List.mem_singleton] at hbm
     subst hbm
     rfl
theorem CpR.obj (R:CpR w z t) {a:Nat}:zep z a↔∃ m:Nat,Rch w m∧ze2 (cpM w) (m:Int)=some (a:Int):=by
 obtain ⟨h0,h1⟩:=R.hp
 constructor
 · intro ho
   obtain ⟨k,hk,e,-⟩:=ho.2.2.2.2.2.2
   have hm:bkAt z a ∈ zab z:=by rw[←e];exact List.getElem_mem hk
   have hkk:=ho.2.2.2.2.1
   rw[h1] at hm
   rcases List.mem_append.1 hm with hm|hm
   · obtain ⟨b1,q1,q2,tt,q3,q4⟩:=zk1 hm
     have h3:=congrArg Bk.at_ q3
     rw[zaa] at h3
     have h3:(a:Int)=tt:=h3
     rw[←h3] at q4
     have q5:=(zd9 R.V.inc).2 (show (b1.at_,(a:Int)) ∈ cpM w from q4)
     obtain ⟨m,e2,hr⟩:=R.V.rch R.L.rc q5
     exact ⟨m,hr,by rw[←e2];exact q5⟩
   · exfalso
     unfold frB at hm
     split at hm
     · cases hm
     · rw[List.mem_singleton] at hm
       have h3:=congrArg Bk.kind hm
       have:(bkAt z a).kind=(zaf (wd z a)).kind:=rfl
       rw[this,hkk] at h3
       have h3:(1:Int)=2:=h3
       omega
 · rintro ⟨m,hr,hm⟩
   obtain ⟨b,q1,q2,q3⟩:=zKx (l:=cpL w) (s:=128) ((zd9 R.V.inc).1 hm)
   have hmem:b ∈ zab z:=by rw[h1];exact List.mem_append_left _ q1
   obtain ⟨k,hk,rfl⟩:=List.getElem_of_mem hmem
   obtain ⟨a2,e1,e2⟩:=ziy h0 hk q3
   rw[e1,zaa] at q2
   obtain rfl:a2=a:=by dsimp only at q2;omega
   exact e2
theorem CpR.at_ (R:CpR w z t) {m a:Nat} (hm:ze2 (cpM w) (m:Int)=some (a:Int)):zep w m∧zaf (wd z a)={ zaf (wd w m) with mark:=false }∧szAt z a=szAt w m∧wd z (a+1)=0∧flds z a=flds w m∧128≤a∧a≤m∧(∀ i,(flds w m)[i]? = some 3→FxV (cpM w) (wd w (m+2+i)) (wd z (a+2+i)))∧∀ i,2+i<szAt w m→(flds w m)[i]? ≠ some 3→wd z (a+2+i)=wd w (m+2+i):=by
 have hmem:=(zd9 R.V.inc).1 hm
 obtain ⟨m',a',e,q1,q2,q3,q4,q5,q6,q7,q8⟩:=R.D.obj _ hmem
 injection e with e1 e2
 obtain rfl:m=m':=by omega
 obtain rfl:a=a':=by omega
 have ho:=R.L.rch q1
 obtain ⟨h1,h2,h3⟩:=zH9 ho q5
 have hd:=R.V.dn _ hmem
 dsimp only at hd
 have ht:=zkx ho
 refine ⟨ho,h1,h2,q6,?_,by omega,by omega,q7,q8⟩
 unfold flds
 rw[h1]
 dsimp only
 rw[R.D.low _ (by omega),R.D.low _ (by omega)]
theorem CpR.slot (R:CpR w z t) {i:Nat} (hi:i<16):(slAt z i).gen=(slAt w i).gen∧(slAt z i).used=(slAt w i).used∧((slAt w i).used=true→∃ a:Nat,ze2 (cpM w) (slAt w i).at_=some (a:Int)∧(slAt z i).at_=(a:Int))∧((slAt w i).used=false→slAt z i=slAt w i):=by
 have h:=R.D.sl i hi
 unfold nwS at h
 cases hu:(slAt w i).used with
 | true =>
  rw[hu,if_pos rfl] at h
  have hr:=Rch.slot (ws:=w) i hi hu
  obtain ⟨a,h1,h2,h3⟩:=R.V.to R.L.rc hr
  have h0:(((slAt w i).at_.toNat:Nat):Int)=(slAt w i).at_:=Int.toNat_of_nonneg (ze8 (wd w (112+i))).2.2.1
  rw[h0] at h1
  rw[h1] at h
  rw[h]
  exact ⟨rfl,rfl,fun _=>⟨a,h1,rfl⟩,fun h=>(by cases h)⟩
 | false =>
  rw[hu] at h
  simp only[Bool.false_eq_true,if_false] at h
  rw[h]
  exact ⟨rfl,hu,fun h=>(by cases h),fun _=>rfl⟩
theorem CpR.lay (R:CpR w z t):Lay z t:=by
 obtain ⟨h0,h1⟩:=R.hp
 have hs:zah (z.length:Int)=true:=by rw[R.D.len];exact R.L.size
 have hb:=(zad _).1 R.L.size
 have ht8:=zr6 R.L.ty
 have hlow:=R.D.low
 refine ⟨hs,?_,fun i hi1 hi2 => ?_,?_,?_,h0,?_,wr_of h0 ht8 fun a ho => ?_,fun i hi => ?_⟩
 · rw[tyN_eq R.D.len (fun i hi=>hlow i (.inl hi)) R.L.size]
   exact R.L.ty
 · rcases Nat.lt_or_ge i 19 with h3|h3
   · obtain ⟨l1,l2,l3⟩:=R.D.line
     have:i=16∨i=17∨i=18:=by omega
     rcases this with rfl|rfl|rfl <;> assumption
   · rw[hlow i (by omega)]
     exact R.L.z16 i hi1 hi2
 · have:=(zfw w t).1 R.L.tys
   rw[zfw]
   intro i hi
   have h3:=this i hi
   unfold zAu at h3 ⊢
   rw[hlow _ (by omega),hlow _ (by omega)]
   exact h3
 · rw[zb9]
   intro i hi
   have hw:=(zb9 w).1 R.L.sls i hi
   obtain ⟨g1,g2,g3,g4⟩:=R.slot hi
   cases hu:(slAt w i).used with
   | false=>rw[g4 hu];exact hw
   | true =>
     obtain ⟨a,a1,a2⟩:=g3 hu
     obtain ⟨u1,-,-⟩:=zto hw hu
     obtain ⟨m,em,hr⟩:=R.V.rch R.L.rc a1
     obtain ⟨ho,-,-,-,-,k1,k2,-⟩:=R.at_ (m:=m) (a:=a) (by rw[em] at a1;exact a1)
     unfold znd
     rw[g2,hu,if_pos rfl,g1,a2]
     have:=ho.2.2.1
     simp only[Bool.and_eq_true,decide_eq_true_eq]
     omega
 · rw[h1]
   refine zJg fun b hb => ?_
   obtain ⟨b1,q1,q2,tt,rfl,-⟩:=zk1 hb
   unfold zax at q2
   simp at q2
   exact q2.1
 · obtain ⟨m,hr,hm⟩:=R.obj.1 ho
   obtain ⟨how,g1,g2,g3,g4,g5,g6,g7,g8⟩:=R.at_ hm
   obtain ⟨f1,f2,f3,f4,f5,f6⟩:=R.L.obj how
   rw[g1,g2,g4]
   refine ⟨rfl,g3,f3,f5,fun hp => ?_,fun i hi => ?_,fun i hi => ?_⟩
   · rw[g8 _ (by omega) (by rw[List.getElem?_eq_none (Nat.le_refl _)];simp)]
     have h9:(decide ((((zfl w t 8)[(zaf (wd w m)).typ.toNat]?).getD []).length+2<szAt w m) && wd w (m+2+(((zfl w t 8)[(zaf (wd w m)).typ.toNat]?).getD []).length) != 0)=false:=f6 9 (by omega) (by omega)
     rw[f4,Option.getD_some,decide_eq_true hp,Bool.true_and,bne_eq_false_iff_eq] at h9
     exact h9
   · have hlt:=(List.getElem?_eq_some_iff.1 hi).1
     rw[g8 i (by rw[f5];unfold za8;omega) (by rw[hi];simp)]
     have h10:((List.range (((zfl w t 8)[(zaf (wd w m)).typ.toNat]?).getD []).length).any fun i=>wrF w (((zfl w t 8)[(zaf (wd w m)).typ.toNat]?).getD []) (za1 (zab w)) m 10 i)=false:=f6 10 (by omega) (by omega)
     rw[f4,Option.getD_some,List.any_eq_false] at h10
     have:=h10 i (List.mem_range.2 hlt)
     unfold wrF at this
     rw[if_pos rfl,hi] at this
     simpa using this
   · rcases g7 i hi with ⟨-,h5⟩|⟨h4,h5⟩
     · exact .inl h5
     · obtain ⟨m',e,hr'⟩:=R.V.rch R.L.rc h5
       exact .inr (R.obj.2 ⟨m',hr',by rw[←e];exact h5⟩)
 · obtain ⟨g1,g2,g3,g4⟩:=R.slot hi
   unfold zih
   cases hu:(slAt w i).used with
   | false=>rw[g2,hu];rfl
   | true =>
     obtain ⟨a,a1,a2⟩:=g3 hu
     obtain ⟨m,em,hr⟩:=R.V.rch R.L.rc a1
     rw[a2,Int.toNat_natCast,(zl1 h0).2 (R.obj.2 ⟨m,hr,by rw[←em];exact a1⟩)]
     simp
theorem CpR.rch (R:CpR w z t) {a:Nat}:Rch z a↔∃ m:Nat,Rch w m∧ze2 (cpM w) (m:Int)=some (a:Int):=by
 constructor
 · intro ha
   exact R.obj.1 (R.lay.rch ha)
 · rintro ⟨m,hr,hm⟩
   have key:∀ m,Rch w m→∀ a:Nat,ze2 (cpM w) (m:Int)=some (a:Int)→Rch z a:=by
    intro m hr
    induction hr with
    | slot i hi hu =>
     intro a hm
     obtain ⟨g1,g2,g3,g4⟩:=R.slot hi
     obtain ⟨a',a1,a2⟩:=g3 hu
     have h0:(((slAt w i).at_.toNat:Nat):Int)=(slAt w i).at_:=Int.toNat_of_nonneg (ze8 (wd w (112+i))).2.2.1
     rw[h0,a1] at hm
     injection hm with hm
     have:=Rch.slot (ws:=z) i hi (by rw[g2];exact hu)
     rw[a2,Int.toNat_natCast] at this
     rwa [show a'=a by omega] at this
    | ref m i hr ht hf hv ih =>
     intro a hm
     obtain ⟨b,b1,b2,b3⟩:=R.V.to R.L.rc hr
     have hb:=ih b b1
     obtain ⟨how,g1,g2,g3,g4,g5,g6,g7,g8⟩:=R.at_ b1
     have hob:=R.obj.2 ⟨m,hr,b1⟩
     rcases g7 i hf with ⟨h4,-⟩|⟨h4,h5⟩
     · exact absurd h4 hv
     · have hot:=R.L.ref how hf hv
       have h2048:wd w (m+2+i)<2048:=by
        have:=hot.2.2.1
        have:=(zad _).1 R.L.size
        omega
       rw[Nat.min_eq_left (by omega)] at hm
       rw[h5] at hm
       injection hm with hm
       have hza:=R.obj.2 ⟨wd w (m+2+i),by have:=Rch.ref m i hr ht hf hv;rwa [Nat.min_eq_left (by omega)] at this,h5⟩
       have h3:=hza.1
       have:=Rch.ref (ws:=z) b i hb (zHp R.hp.1 hob).2 (by rw[g4];exact hf) (by omega)
       have hle:wd z (b+2+i)<2048:=by
        have:=hza.2.2.1
        have:=(zad _).1 R.lay.size
        omega
       rw[Nat.min_eq_left (by omega)] at this
       rwa [show wd z (b+2+i)=a by omega] at this
   exact key m hr a hm
theorem CpR.out (R:CpR w z t):za3 z=(cpM w).map Prod.snd:=by
 refine zAp (zjy R.lay.rc) (by rw[List.pairwise_map];exact R.V.snd) fun x => ?_
 rw[zd5 R.lay.rc,List.mem_map]
 constructor
 · rintro ⟨a,rfl,-,hr⟩
   obtain ⟨m,-,hm⟩:=R.rch.1 hr
   exact ⟨_,(zd9 R.V.inc).1 hm,rfl⟩
 · rintro ⟨p,hp,rfl⟩
   obtain ⟨m,a,rfl,q1,q2,-⟩:=R.D.obj p hp
   have hm:=(zd9 R.V.inc).2 hp
   have hr:=R.rch.2 ⟨m,q1,hm⟩
   exact ⟨a,rfl,zn4 ((zas R.lay.rc).2.2 a hr),hr⟩
end
theorem Lay.cp {w:List Nat} {t:Nat} (h:Lay w t) (ho:∀ v ∈ w,v<18446744073709551616):CpR w (cpZ w) t:=⟨h,(h.desc ho).1,(h.desc ho).2,h.mvs ho⟩
end Go.Proofs.YtpcajamacpbjcaaGreat
namespace Go.Proofs.YtpcajamacpbjcaaGreat
open Go.RowKit
theorem zI4 {a b:List Nat} (hl:a.length=b.length) (h:∀ i,i<a.length→wd a i=wd b i):a=b:=by
 apply List.ext_getElem hl
 intro i h1 h2
 rw[←zcb h1,←zcb h2]
 exact h i h1
theorem sl_ext {x y:Sl} (h1:x.gen=y.gen) (h2:x.used=y.used) (h3:x.at_=y.at_):x=y:=by
 cases x;cases y
 dsimp only at h1 h2 h3
 rw[h1,h2,h3]
theorem zG7 {ws:List Nat} {a:Nat} (h:stands ws a=true):zcg (zaf (wd ws a))=wd ws a:=by
 unfold stands zar at h
 simp only[Bool.and_eq_true,beq_iff_eq] at h
 exact h.1.2
theorem Lay.lt {w:List Nat} {t:Nat} (h:Lay w t) (ho:∀ v ∈ w,v<18446744073709551616):∀ v ∈ cpZ w,v<18446744073709551616:=by
 have F:=h.run ho
 unfold cpZ vE
 exact zo7 _ _ F.o4 (zqq F.en).1.val
theorem mvs_id {f:Bk→Bk} {r:List Bk}:∀ (l:List Bk) (s:Int),(∀ b ∈ mvB l s,zax (f b)=true∧(f b).at_=b.at_∧(f b).size=b.size)→zal ((mvB l s).map f++r) s=((mvB l s).map fun b=>(b.at_,b.at_))++zal r (zat l s)∧zat ((mvB l s).map f++r) s=zat r (zat l s):=by
 intro l
 induction l with
 | nil=>intro s _;exact ⟨rfl,rfl⟩
 | cons b l ih =>
  intro s h
  by_cases hb:zax b=true
  · simp only[mvB,zat] at h ⊢
    rw[if_pos hb] at h ⊢
    rw[if_pos hb]
    obtain ⟨h1,h2,h3⟩:=h { b with at_:=s,mark:=false,next:=0 } (by simp)
    obtain ⟨i1,i2⟩:=ih (s+b.size) fun c hc=>h c (List.mem_cons_of_mem _ hc)
    dsimp only at h2 h3
    simp only[List.map_cons,List.cons_append,zal,zat]
    rw[if_pos h1,if_pos h1,h2,h3,i1,i2]
    exact ⟨rfl,rfl⟩
  · simp only[mvB,zat] at h ⊢
    rw[if_neg hb] at h ⊢
    rw[if_neg hb]
    exact ih s h
theorem zCx:∀ (l:List Bk) (s i:Int),s≤i→i<zat l s→∃ b ∈ mvB l s,b.at_≤i∧i<b.at_+b.size:=by
 intro l
 induction l with
 | nil=>intro s i h1 h2;simp only[zat] at h2;omega
 | cons b l ih =>
  intro s i h1 h2
  simp only[zat,mvB] at h2 ⊢
  by_cases hb:zax b=true
  · rw[if_pos hb] at h2 ⊢
    rcases Int.lt_or_le i (s+b.size) with h3|h3
    · exact ⟨_,List.mem_cons_self,h1,h3⟩
    · obtain ⟨c,hc,h4⟩:=ih _ i h3 h2
      exact ⟨c,List.mem_cons_of_mem _ hc,h4⟩
  · rw[if_neg hb] at h2 ⊢
    exact ih _ i h1 h2
section
variable {w z:List Nat} {t:Nat}
theorem CpR.stay (R:CpR w z t):(∀ p ∈ cpM z,p.1=p.2)∧cpT z=cpT w∧(∀ i:Nat,128≤i→i<cpT w→∃ a:Nat,((a:Int),(a:Int)) ∈ cpM z∧a≤i∧i<a+szAt z a):=by
 obtain ⟨h0,h1⟩:=R.hp
 have hlive:∀ b ∈ mvB (cpL w) 128,zax (mkS z b)=true∧(mkS z b).at_=b.at_∧(mkS z b).size=b.size:=fun b hb=>by
   refine ⟨?_,rfl,rfl⟩
   obtain ⟨b1,q1,q2,tt,rfl,-⟩:=zk1 hb
   have hk:b1.kind=1:=by unfold zax at q2;simp at q2;exact q2.1
   have hmem:({ b1 with at_:=tt,mark:=false,next:=0 }:Bk) ∈ zab z:=by rw[h1];exact List.mem_append_left _ hb
   obtain ⟨k,hkl,ek⟩:=List.getElem_of_mem hmem
   obtain ⟨a,e1,ho⟩:=ziy h0 hkl (by rw[ek];exact hk)
   have hr:=R.rch.2 (R.obj.1 ho)
   have e2:({ b1 with at_:=tt,mark:=false,next:=0 }:Bk)=bkAt z a:=by rw[←ek,e1]
   rw[e2] at hmem ⊢
   obtain ⟨a',e3,a1,a2,a3,a4⟩:=(zb1 h0).1 _ hmem
   have e4:=congrArg Bk.at_ e3
   rw[zaa,zaa] at e4
   obtain rfl:a=a':=by omega
   have hs:zd6 z (bkAt z a)=true:=(zem a3).2 hr
   unfold zax mkS
   rw[hs]
   show ((bkAt z a).kind == 1 && true)=true
   rw[←e2]
   simp[hk]
 have hfr:∀ s,zal ((frB w.length (cpT w)).map (mkS z)) s=[]∧zat ((frB w.length (cpT w)).map (mkS z)) s=s:=fun s=>by
   unfold frB
   split
   · exact ⟨rfl,rfl⟩
   · exact ⟨rfl,rfl⟩
 obtain ⟨m1,m2⟩:=mvs_id (f:=mkS z) (r:=(frB w.length (cpT w)).map (mkS z)) (cpL w) 128 hlive
 have hL:cpL z=(mvB (cpL w) 128).map (mkS z)++(frB w.length (cpT w)).map (mkS z):=by
   unfold cpL
   rw[h1,List.map_append]
   rfl
 have hM:cpM z=(mvB (cpL w) 128).map fun b=>(b.at_,b.at_):=by
   unfold cpM
   rw[hL,m1,(hfr _).1,List.append_nil]
 have hE:zat (cpL z) 128=zat (cpL w) 128:=by rw[hL,m2,(hfr _).2]
 refine ⟨fun p hp => ?_,by unfold cpT;rw[hE],fun i hi1 hi2 => ?_⟩
 · rw[hM] at hp
   obtain ⟨b,-,rfl⟩:=List.mem_map.1 hp
   rfl
 · obtain ⟨b,hb,b1,b2⟩:=zCx (cpL w) 128 (i:Int) (by omega) (by rw[R.E];omega)
   have hbm:b ∈ zab z:=by rw[h1];exact List.mem_append_left _ hb
   obtain ⟨a,e1,-⟩:=(zb1 h0).1 b hbm
   have e2:b.at_=(a:Int):=by rw[e1,zaa]
   have e3:b.size=((szAt z a:Nat):Int):=by rw[e1];rfl
   refine ⟨a,?_,by omega,by omega⟩
   rw[hM]
   exact List.mem_map.2 ⟨b,hb,by rw[e2]⟩
theorem CpR.again (R:CpR w z t) (ho:∀ v ∈ z,v<18446744073709551616):cpZ z=z:=by
 obtain ⟨h0,h1⟩:=R.hp
 obtain ⟨s1,s2,s3⟩:=R.stay
 have R':=R.lay.cp ho
 have D:=R'.D
 have hlt:=R.lay.lt ho
 have hto:∀ {a u:Int},ze2 (cpM z) a=some u→u=a:=fun h=>(s1 _ ((zd9 R'.V.inc).1 h)).symm
 have hb:=(zad _).1 R.lay.size
 refine zI4 D.len fun i hi => ?_
 rw[D.len] at hi
 by_cases hlow:i<16∨19≤i∧i<112
 · exact D.low i hlow
 · rcases Nat.lt_or_ge i 19 with h19|h19
   · obtain ⟨l1,l2,l3⟩:=D.line
     obtain ⟨r1,r2,r3⟩:=R.D.line
     have:i=16∨i=17∨i=18:=by omega
     rcases this with rfl|rfl|rfl
     · rw[l1,r1]
     · rw[l2,r2]
     · rw[l3,r3]
   · rcases Nat.lt_or_ge i 128 with h128|h128
     · obtain ⟨j,rfl⟩:∃ j,i=112+j:=⟨i - 112,by omega⟩
       have hj:j<16:=by omega
       obtain ⟨g1,g2,g3,g4⟩:=R'.slot hj
       have hsl:slAt (cpZ z) j=slAt z j:=by
         cases hu:(slAt z j).used with
         | false=>exact g4 hu
         | true =>
           obtain ⟨a,a1,a2⟩:=g3 hu
           have:=hto a1
           exact sl_ext g1 g2 (by omega)
       unfold slAt at hsl
       rw[←zqo (ze6 hlt (112+j)),←zqo (ze6 ho (112+j)),hsl]
     · rcases Nat.lt_or_ge i (cpT w) with hT|hT
       · obtain ⟨a,a1,a2,a3⟩:=s3 i h128 hT
         obtain ⟨m,u,e,q1,q2,q3,q4,q5,q6,q7,q8⟩:=D.obj _ a1
         obtain ⟨e1,e2⟩:=Prod.mk.inj e
         have ea:a=m:=Int.ofNat_inj.1 e1
         have eu:a=u:=Int.ofNat_inj.1 e2
         rw[←ea] at q1 q3 q4 q5 q7 q8
         rw[←eu] at q2 q3 q5 q6 q7 q8
         have hmv:=(zd9 R'.V.inc).2 a1
         obtain ⟨-,g1,g2,g3,g4,g5,g6,g7,g8⟩:=R'.at_ hmv
         obtain ⟨k,rfl⟩:∃ k,i=a+k:=⟨i - a,by omega⟩
         have hob:=R.lay.rch q1
         rcases Nat.lt_or_ge k 2 with hk|hk
         · have:k=0∨k=1:=by omega
           rcases this with rfl|rfl
           · obtain ⟨f1,-⟩:=R.lay.obj hob
             have hst:=hob.2.2.2.1
             have hmk:({ zaf (wd z a) with mark:=false }:Bk)=zaf (wd z a):=by rw[←f1]
             rw[Nat.add_zero,q5,hmk]
             exact zG7 hst
           · rw[q6]
             exact (R.lay.obj hob).2.1.symm
         · obtain ⟨k,rfl⟩:∃ k',k=2+k':=⟨k - 2,by omega⟩
           rw[show a+(2+k)=a+2+k by omega]
           by_cases hf:(flds z a)[k]? = some 3
           · rcases g7 k hf with ⟨v1,v2⟩|⟨v1,v2⟩
             · rw[v1,v2]
             · have:=hto v2
               omega
           · exact g8 k (by omega) hf
       · have hT2:=D.free
         rw[s2,R.D.len] at hT2
         rcases Nat.lt_or_ge i (cpT w+2) with hi2|hi2
         · obtain ⟨d1,d2⟩:=hT2 (by have:=R.D.len;omega)
           obtain ⟨c1,c2⟩:=R.D.free (by have:=R.D.len;omega)
           have:i=cpT w∨i=cpT w+1:=by omega
           rcases this with rfl|rfl
           · rw[d1,c1]
           · rw[d2,c2]
         · refine D.rest i (by rw[s2];exact hi2) (fun b hbm => ?_) fun m hm h3 => ?_
           · rw[h1] at hbm
             rcases List.mem_append.1 hbm with hbm|hbm
             · have hbm2:b ∈ zab z:=by rw[h1];exact List.mem_append_left _ hbm
               have hkk:b.kind=1:=by
                 obtain ⟨b1,q1,q2,tt,rfl,-⟩:=zk1 hbm
                 unfold zax at q2;simp at q2;exact q2.1
               obtain ⟨k,hkl,ek⟩:=List.getElem_of_mem hbm2
               obtain ⟨a,e1,hob⟩:=ziy h0 hkl (by rw[ek];exact hkk)
               have hr:=R.rch.2 (R.obj.1 hob)
               obtain ⟨u,u1,u2,u3⟩:=R'.V.to R.lay.rc hr
               obtain ⟨m,v,e,q1,q2,q3,q4,-⟩:=D.obj _ ((zd9 R'.V.inc).1 u1)
               injection e with e3 e4
               have:=hto u1
               rw[s2] at q3
               obtain rfl:a=m:=by omega
               rw[←ek,e1,zaa]
               omega
             · unfold frB at hbm
               split at hbm
               · cases hbm
               · rw[List.mem_singleton] at hbm
                 subst hbm
                 dsimp only
                 omega
           · obtain ⟨u,u1,u2,u3⟩:=R'.V.to R.lay.rc hm
             obtain ⟨m',v,e,q1,q2,q3,q4,-⟩:=D.obj _ ((zd9 R'.V.inc).1 u1)
             injection e with e3 e4
             have:=hto u1
             rw[s2] at q3
             obtain rfl:m=m':=by omega
             omega
end
end Go.Proofs.YtpcajamacpbjcaaGreat
