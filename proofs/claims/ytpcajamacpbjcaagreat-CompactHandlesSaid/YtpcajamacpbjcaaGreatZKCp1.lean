/- Texts laid together: CpP CpQ CpR CpS CpT CpU CpV CpW CpX CpY CpZ CpD. -/
import Derived.Test.YtpcajamacpbjcaaGreatZKStg3
import Derived.Test.YtpcajamacpbjcaaGreatZKRs
namespace Go.Proofs.YtpcajamacpbjcaaGreat
open Go.RowKit
theorem zIg {x:List Nat} (h:zcs x=0) (h3:wd x 16≠3):zcx x=0:=by
 unfold zcx
 rw[if_pos h,if_neg (fun h=>h3 h.1)]
theorem zxu {x:List Nat} (h:zcs x=0) (h3:wd x 16≠3) (h4:wd x 16≠4) (hh:zae x=0):zao x=0:=by
 unfold zao
 rw[if_pos (zIg h h3),if_neg h4,if_neg h3]
 exact hh
theorem zvb:∀ n x,(∀ v ∈ x,v<18446744073709551616)→mzS 1 x≤n→wd x 16=1→zao x=0→zap x=0→(zc7 1 x).1=0∧wd (zc7 1 x).2.2 16=2∧zcs (zc7 1 x).2.2=0∧1≤(zc7 1 x).2.1.length:=by
 intro n
 induction n with
 | zero=>intro x _ h p1;exfalso;unfold mzS at h;rw[if_pos p1] at h;omega
 | succ n ih =>
  intro x ho h p1 hck hrc
  have e:zac x=(0,zg1 (za4 x) 2):=by unfold zac;rw[if_pos hck,if_pos p1,if_pos hrc]
  have h0:(zac x).1=0:=by rw[e]
  have hd:=zfj ho p1 h0
  obtain ⟨-,-,k3,-,-,-,-,-⟩:=zlu ho h0
  obtain ⟨r1,r2⟩:=zqd hrc
  obtain ⟨g1,g2,g3,g4,g5,g6⟩:=zfe hck p1 (.inl rfl) (zdq hrc) (fun y hy=>by
    obtain ⟨i,hi⟩:=List.mem_iff_getElem?.1 hy
    exact r1 i y hi) (zo6 hrc)
  simp only[Nat.reduceAdd] at g4
  rw[zdp ho p1 h0]
  by_cases h32:32≤(za4 x).length
  · rw[if_pos h32] at g4
    have hrc2:zap (zag x (zac x).2)=0:=by
     rw[e,zcd h32]
     exact (zvq hrc h32).1
    have p1':wd (zag x (zac x).2) 16=1:=by rw[e];exact g4
    have hck2:zao (zag x (zac x).2)=0:=zxu k3 (by omega) (by omega) (zas hrc2).1
    obtain ⟨i1,i2,i3,i4⟩:=ih _ (zdf ho h0) (by omega) p1' hck2 hrc2
    rw[if_pos i1]
    exact ⟨rfl,i2,i3,by simp⟩
  · rw[if_neg h32] at g4
    have p2':wd (zag x (zac x).2) 16=2:=by rw[e];exact g4
    rw[zcj (by omega),if_pos rfl]
    exact ⟨rfl,p2',k3,by simp⟩
theorem zvr {x:List Nat} (hhp:zae x=0) (hf:¬ 32≤(za0 x).length):zbi (zag x (zg1 (za0 x) 3)) 128 128=0∧zhn (zag x (zg1 (za0 x) 3)) 128 128=zal (zab x) 128∧zae (zag x (zg1 (za0 x) 3))=0∧zab (zag x (zg1 (za0 x) 3))=fwB (zab x) 128:=by
 have hz:=zqg (x:=x) (E:=[⟨16,3⟩]) (fun e he=>by
  rw[List.mem_singleton] at he
  subst he
  exact .inl (by dsimp only;omega))
 obtain ⟨z1,z2⟩:=(hz.ev hhp).heap hhp
 have hrow:=zb1 hhp
 have hid:(zab x).map (nxB (zag x [⟨16,3⟩]))=zab x:=by
  rw[List.map_congr_left (g:=id) (fun b hb => ?_),List.map_id]
  obtain ⟨a,rfl,a1,a2,-⟩:=hrow.1 b hb
  show nxB (zag x [⟨16,3⟩]) (bkAt x a)=bkAt x a
  unfold nxB
  refine zty ?_
  rw[zaa,show ((a:Int)).toNat=a from Int.toNat_natCast a,za9 _ _ _ (fun e he=>by
   rw[List.mem_singleton] at he
   subst he
   dsimp only
   omega)]
  rfl
 rw[hid] at z2
 have hb:=zo2 z1
 obtain ⟨l,-,b2,-,b4,b5,b6,b7,-⟩:=hb
 rw[z2] at b2
 subst b2
 have e:zag x (zg1 (za0 x) 3)=zag (zag x [⟨16,3⟩]) (za2 (zab x) 128):=by
  rw[zhh hf,←zea,zrv hhp]
  rfl
 rw[e]
 exact ⟨b4,b5,b6,b7⟩
theorem zu4:∀ n x,(∀ v ∈ x,v<18446744073709551616)→mzS 2 x≤n→wd x 16=2→zao x=0→(zc7 2 x).1=0∧wd (zc7 2 x).2.2 16=3∧wd (zc7 2 x).2.2 17=0∧zcs (zc7 2 x).2.2=0∧1≤(zc7 2 x).2.1.length∧zbi (zc7 2 x).2.2 128 128=0∧zae (zc7 2 x).2.2=0:=by
 intro n
 induction n with
 | zero=>intro x _ h p2;exfalso;unfold mzS at h;rw[if_pos p2] at h;omega
 | succ n ih =>
  intro x ho h p2 hck
  have hhp:zae x=0:=by
    have:=hck
    unfold zao at this
    rw[if_pos (zjw hck),if_neg (by omega),if_neg (by omega)] at this
    exact this
  have e:zac x=(0,zg1 (za0 x) 3):=by unfold zac;rw[if_pos hck,if_neg (by omega),if_pos p2,if_pos hhp]
  have h0:(zac x).1=0:=by rw[e]
  have hd:=zfj ho p2 h0
  obtain ⟨-,-,k3,-,-,-,-,-⟩:=zlu ho h0
  obtain ⟨r1,r2,r3⟩:=zow hhp
  obtain ⟨g1,g2,g3,g4,g5,g6⟩:=zfe hck p2 (.inr rfl) r1 r2 r3
  simp only[Nat.reduceAdd] at g4 g5
  rw[zdp ho p2 h0]
  by_cases h32:32≤(za0 x).length
  · rw[if_pos h32] at g4
    have p2':wd (zag x (zac x).2) 16=2:=by rw[e];exact g4
    have hck2:zao (zag x (zac x).2)=0:=zxu k3 (by omega) (by omega) (zuw p2 h0).1
    obtain ⟨i1,i2,i3,i4,i5,i6,i7⟩:=ih _ (zdf ho h0) (by omega) p2' hck2
    rw[if_pos i1]
    exact ⟨rfl,i2,i3,i4,by simp,i6,i7⟩
  · rw[if_neg h32] at g4
    have p3':wd (zag x (zac x).2) 16=3:=by rw[e];exact g4
    obtain ⟨f1,-,f3,-⟩:=zvr hhp h32
    rw[zcj (by omega),if_pos rfl]
    refine ⟨rfl,p3',by rw[e];exact g5,k3,by simp,?_,?_⟩
    · rw[e];exact f1
    · rw[e];exact f3
end Go.Proofs.YtpcajamacpbjcaaGreat
namespace Go.Proofs.YtpcajamacpbjcaaGreat
open Go.RowKit
structure Hd (ws xs:List Nat):Prop where
 len:xs.length=ws.length
 low:∀ i:Nat,96≤i→i<112→wd xs i=wd ws i
 blk:∀ b ∈ zab ws,wd xs b.at_.toNat=wd ws b.at_.toNat∧wd xs (b.at_.toNat+1)=wd ws (b.at_.toNat+1)
section
variable {ws xs:List Nat}
theorem Hd.blocks (h:Hd ws xs):∀ i l,blocks ws i=some l→(∀ b ∈ l,b ∈ zab ws)→Proofs.YtpcajamacpbjcaaGreat.blocks xs i=some l:=by
 refine zdb (fun i l=>(∀ b ∈ l,b ∈ zab ws)→Proofs.YtpcajamacpbjcaaGreat.blocks xs i=some l) (fun i hi _ => ?_) (fun i l hi hs hb ih h2 => ?_)
 · exact zaq (by rw[h.len];exact hi)
 · have ih:=ih (fun b hb=>h2 b (List.mem_cons_of_mem _ hb))
   obtain ⟨b1,b2⟩:=h.blk _ (h2 (bkAt ws i) (by simp))
   rw[zaa,Int.toNat_natCast] at b1 b2
   have hz:szAt xs i=szAt ws i:=by unfold szAt;rw[b1]
   have hst:stands xs i=true:=by unfold Proofs.YtpcajamacpbjcaaGreat.stands at hs ⊢;rw[b1,h.len];exact hs
   have hbk:bkAt xs i=bkAt ws i:=by unfold bkAt;rw[b1,b2]
   rw[zaz (by rw[h.len];exact hi) hst,hz,ih,hbk]
   rfl
theorem Hd.ty (h:Hd ws xs) (h0:zae ws=0) {b:Bk} (hb:b ∈ zab ws) (hk:b.kind=1):wd xs (tyA b)=wd ws (tyA b)∧wd xs (tyA b+1)=wd ws (tyA b+1):=by
 obtain ⟨k,hk2,rfl⟩:=List.getElem_of_mem hb
 have ht:=zgp (zfi h0).2.2.2 (by omega) hk2 hk
 unfold tyA
 exact ⟨h.low _ (by omega) (by omega),h.low _ (by omega) (by omega)⟩
theorem Hd.fit (h:Hd ws xs) (h0:zae ws=0) {b:Bk} (hb:b ∈ zab ws):zds xs b=zds ws b:=by
 unfold zds
 by_cases hk:b.kind=1
 · obtain ⟨t1,t2⟩:=h.ty h0 hb hk
   unfold zc2
   rw[t1,t2]
 · have:(b.kind != 1)=true:=by rw[bne_iff_ne];exact hk
   rw[this,Bool.true_or,Bool.true_or]
theorem Hd.heap (h:Hd ws xs) (h0:zae ws=0):zae xs=0∧zab xs=zab ws:=by
 obtain ⟨h1,l,h2,h3,h4⟩:=zam h0
 have hb:=h.blocks 128 l h2 (fun b hb=>by rw[h4];exact hb)
 rw[h4]
 refine ze7 (by rw[h.len];exact h1) hb ?_
 rw[List.all_eq_true] at h3 ⊢
 intro b hb2
 rw[h.fit h0 (by rw[h4];exact hb2)]
 exact h3 b hb2
theorem Hd.mv (h:Hd ws xs) (h0:zae ws=0):∀ (l:List Bk) (s:Int),(∀ b ∈ l,b ∈ zab ws)→zbz xs l s=zbz ws l s:=by
 intro l
 induction l with
 | nil=>intro s _;rfl
 | cons b l ih =>
  intro s hl
  simp only[zbz]
  rw[h.fit h0 (hl b (by simp)),ih _ (fun c hc=>hl c (List.mem_cons_of_mem _ hc)),ih _ (fun c hc=>hl c (List.mem_cons_of_mem _ hc))]
theorem Hd.rd (h:Hd ws xs) (h0:zae ws=0) (hr:zbi ws 128 128=0):zbi xs 128 128=0∧zhn xs 128 128=zhn ws 128 128:=by
 obtain ⟨r1,r2,l,r3,r4,r5⟩:=zb8 hr
 have hl:l=zab ws:=by
  have:=(zfi h0).2.2.2
  rw[show ((128:Int)).toNat=128 from rfl] at r3
  rw[r3] at this
  exact Option.some.inj this
 have hb:=h.blocks 128 l r3 (fun b hb=>by rw[←hl];exact hb)
 have hx:zbi xs 128 128=0:=by
  rw[zg6 (by rw[h.len];exact r1) (by rw[h.len];exact r2) (l:=l) hb,h.mv h0 l _ (fun b hb=>by rw[←hl];exact hb),if_pos r4]
 obtain ⟨-,-,l2,q3,-,q5⟩:=zb8 hx
 rw[show ((128:Int)).toNat=128 from rfl] at q3
 rw[hb] at q3
 obtain rfl:=Option.some.inj q3
 exact ⟨hx,by rw[q5,r5]⟩
theorem Hd.fx (h:Hd ws xs) (h0:zc1 ws=0):zc1 xs=0∧zeu xs=zeu ws∧za5 xs 128=za5 ws 128:=by
 obtain ⟨f1,f2,f3⟩:=zd1 h0
 obtain ⟨g1,g2⟩:=h.heap f1
 obtain ⟨g3,g4⟩:=h.rd f1 f2
 have hx:zc1 xs=0:=by unfold zc1;rw[if_pos g1];exact g3
 obtain ⟨-,-,q3⟩:=zd1 hx
 exact ⟨hx,by rw[q3,f3,g4],by rw[(zfi g1).2.1,(zfi f1).2.1,g2]⟩
theorem zya {M:List (Int × Int)}:∀ {R:List Int},(∀ r ∈ R,wd xs r.toNat=wd ws r.toNat)→zdh xs M R=zdh ws M R:=by
 intro R
 induction R with
 | nil=>intro _;rfl
 | cons r R ih =>
  intro h
  simp only[zdh]
  rw[ih (fun x hx=>h x (List.mem_cons_of_mem _ hx))]
  have:zfk xs M r.toNat=zfk ws M r.toNat:=by unfold zfk;rw[h r (by simp)]
  rw[this]
theorem Hd.ob (h:Hd ws xs) {a:Int} (h0:zdw ws a=0) (hr:∀ r ∈ zb0 ws a,wd xs r.toNat=wd ws r.toNat):zdw xs a=0∧zct xs a=zct ws a∧zb0 xs a=zb0 ws a:=by
 have hf:zc1 ws=0:=by
  by_cases h1:zc1 ws=0
  · exact h1
  · rw[(zBe rfl h1).1] at h0;exact absurd h0 h1
 obtain ⟨g1,g2,g3⟩:=h.fx hf
 obtain ⟨f1,f2,f3⟩:=zd1 hf
 have hhp:=h.heap f1
 cases hb:zkm (za5 ws 128) a with
 | none=>rw[(zt9 hf hb).1] at h0;cases h0
 | some b =>
  have hbx:zkm (za5 xs 128) a=some b:=by rw[g3];exact hb
  obtain ⟨b1,b2,b3⟩:=zh7 hb
  rw[(zfi f1).2.1] at b1
  have hfl:zxs xs b=zxs ws b:=by
    obtain ⟨t1,t2⟩:=h.ty f1 b1 b3
    unfold zxs
    rw[t1,t2]
  have hR:zfr xs b=zfr ws b:=by unfold zfr;rw[hfl]
  have er:zb0 ws a=zfr ws b:=by simp[zb0,f1,hb]
  have erx:zb0 xs a=zfr xs b:=by simp[zb0,hhp.1,hbx]
  rw[er] at hr
  cases hmk:b.mark with
  | false=>rw[(zt8 hf hb hmk).1] at h0;cases h0
  | true =>
    cases ho:zdh ws (zeu ws) (zfr ws b) with
    | none=>rw[(zCw hf hb hmk ho).1] at h0;cases h0
    | some o =>
     have hox:zdh xs (zeu xs) (zfr xs b)=some o:=by rw[hR,g2,zya hr];exact ho
     obtain ⟨o1,o2⟩:=zDj hf hb hmk ho
     obtain ⟨p1,p2⟩:=zDj g1 hbx hmk hox
     exact ⟨p1,by rw[p2,o2],by rw[erx,er,hR]⟩
end
end Go.Proofs.YtpcajamacpbjcaaGreat
namespace Go.Proofs.YtpcajamacpbjcaaGreat
open Go.RowKit
def Bd (ws:List Nat) (a:Nat):Prop:=128≤a∧∃ k,k≤(zab ws).length∧blocks ws a=some ((zab ws).drop k)
theorem zG6 {ws:List Nat} (h:zae ws=0):Bd ws 128:=⟨Nat.le_refl _,0,Nat.zero_le _,(zfi h).2.2.2⟩
theorem zpt {ws:List Nat} {a m:Nat} (h:Bd ws a) (hn:zbj ws (a:Int)=0) (e:zhm ws (a:Int)=bkAt ws m):a≤m∧2≤szAt ws m∧m+szAt ws m≤ws.length∧Bd ws (m+szAt ws m)∧bkAt ws m ∈ zab ws∧(bkAt ws m).mark=true∧(bkAt ws m).kind=1:=by
 obtain ⟨h1,k,hk,hb⟩:=h
 obtain ⟨-,-,-,m2,e2,p1,p2,p3,p4,p5,p6,p7,p8,l,q1,-,-,k2,q2,-,q3⟩:=zfc hn
 have em:m2=m:=by
   have:=e2.symm.trans e
   have h3:=congrArg Bk.at_ this
   rw[zaa,zaa] at h3
   omega
 subst em
 rw[q1] at hb
 obtain rfl:=Option.some.inj hb
 have hmw:m2<ws.length:=by omega
 obtain ⟨f1,f2,f3,f4⟩:=zcc q3 hmw
 rw[List.drop_drop,List.drop_drop] at f4
 refine ⟨p1,p3,p5,⟨by omega,k+k2+1,?_,?_⟩,?_,p7,p8⟩
 · rw[List.length_drop] at q2;omega
 · rw[f4,Nat.add_assoc]
 · rw[←f2]
   have hm:gk ((List.drop k (zab ws)).drop k2) 0 ∈ (List.drop k (zab ws)).drop k2:=by
    unfold gk
    rw[List.getElem?_eq_getElem f1,Option.getD_some]
    exact List.getElem_mem f1
   exact List.mem_of_mem_drop (List.mem_of_mem_drop hm)
theorem bd_of {ws:List Nat} (h:zae ws=0) {f:Nat} (hb:zo1 ws f=true):Bd ws f:=by
 obtain ⟨-,-,-,h4⟩:=zfi h
 obtain ⟨h1,-⟩:=zam h
 have hbd:=(zad _).1 h1
 unfold zo1 at hb
 rw[h4] at hb
 dsimp only at hb
 rw[Bool.or_eq_true,List.any_eq_true] at hb
 rcases hb with ⟨b,hm,hq⟩|hq
 · rw[beq_iff_eq] at hq
   obtain ⟨k,hk,rfl⟩:=List.getElem_of_mem hm
   obtain ⟨a,e,a1,a2,a3,a4,a5⟩:=zb5 128 _ h4 (by omega) k hk
   rw[e,zaa] at hq
   obtain rfl:a=f:=by omega
   exact ⟨a2,k,by omega,a5⟩
 · rw[beq_iff_eq] at hq
   subst hq
   exact ⟨by omega,_,Nat.le_refl _,by rw[List.drop_length];exact zaq (Nat.le_refl _)⟩
theorem bd_is {ws:List Nat} (h:zae ws=0) {f:Nat} (hb:Bd ws f) (hf:f≤ws.length):zo1 ws f=true:=by
 obtain ⟨-,-,-,h4⟩:=zfi h
 obtain ⟨h1,k,hk,h2⟩:=hb
 unfold zo1
 rw[h4]
 dsimp only
 rw[Bool.or_eq_true,List.any_eq_true]
 by_cases he:f=ws.length
 · right;rw[beq_iff_eq];exact he
 · left
   obtain ⟨f1,f2,f3,f4⟩:=zcc h2 (by omega)
   refine ⟨bkAt ws f,?_,by rw[beq_iff_eq,zaa]⟩
   rw[←f2]
   unfold gk
   rw[List.getElem?_eq_getElem f1,Option.getD_some]
   exact List.mem_of_mem_drop (List.getElem_mem f1)
def zD5 (ws:List Nat) (a:Nat):Prop:=∀ m:Nat,bkAt ws m ∈ zab ws→(bkAt ws m).mark=true→a≤m→zdw ws (m:Int)=0
theorem zBp {ws:List Nat}:∀ k a,ws.length - a≤k→Bd ws a→zD5 ws a→(zkn ws a).1=0∧(zkn ws a=(0,zb3)∨∃ m:Nat,a≤m∧2≤szAt ws m∧m+szAt ws m≤ws.length∧Bd ws (m+szAt ws m)∧bkAt ws m ∈ zab ws∧(bkAt ws m).mark=true∧zkn ws a=(0,⟨17,m+szAt ws m⟩ :: zct ws (m:Int))):=by
 intro k
 induction k with
 | zero =>
  intro a hk hb hf
  by_cases hn:zbj ws (a:Int)=0
  · obtain ⟨-,-,-,m,e,-⟩:=zfc hn
    obtain ⟨n1,n2,n3,-⟩:=zpt hb hn e
    omega
  · rw[zi2 hn];exact ⟨rfl,.inl rfl⟩
 | succ k ih =>
  intro a hk hb hf
  by_cases hn:zbj ws (a:Int)=0
  · obtain ⟨-,-,-,m,e,-⟩:=zfc hn
    obtain ⟨n1,n2,n3,n4,n5,n6,n7⟩:=zpt hb hn e
    by_cases hr:zb0 ws (m:Int)=[]
    · rw[zkk hn e hr]
      obtain ⟨i1,i2⟩:=ih (m+szAt ws m) (by omega) n4 (fun m' h1 h2 h3=>hf m' h1 h2 (by omega))
      refine ⟨i1,?_⟩
      rcases i2 with i2|⟨m',j1,j2,j3,j4,j5,j6,j7⟩
      · exact .inl i2
      · exact .inr ⟨m',by omega,j2,j3,j4,j5,j6,j7⟩
    · have ho:=hf m n5 n6 n1
      rw[zps hn e hr ho]
      exact ⟨rfl,.inr ⟨m,n1,n2,n3,n4,n5,n6,rfl⟩⟩
  · rw[zi2 hn];exact ⟨rfl,.inl rfl⟩
theorem zgl {ws:List Nat} (h:zae ws=0) {m:Nat} {r:Int} (hr:r ∈ zb0 ws (m:Int)):∃ i:Nat,r=((m+2+i:Nat):Int)∧i<(flds ws m).length∧m+2+i<m+szAt ws m∧zep ws m:=by
 unfold zb0 at hr
 rw[if_pos h] at hr
 cases hb:zkm (za5 ws 128) (m:Int) with
 | none=>rw[hb] at hr;cases hr
 | some b =>
  rw[hb] at hr
  dsimp only at hr
  obtain ⟨m2,e1,e2,e3⟩:=zH8 h hb
  obtain rfl:m2=m:=by omega
  have hf:zxs ws b=flds ws m2:=by rw[e2];rfl
  have hat:b.at_=(m2:Int):=by rw[e2,zaa]
  unfold zfr at hr
  obtain ⟨i,i1,-,i3⟩:=zke.1 hr
  rw[hf] at i1
  have hfo:=e3.2.2.2.2.2.1
  rw[zh4 (ws:=ws) (b:=bkAt ws m2) e3.2.2.2.2.1] at hfo
  simp only[Bool.and_eq_true,beq_iff_eq] at hfo
  have h7:=hfo.2
  rw[zba] at h7
  have h8:(flds ws m2).length=(zbd (wd ws (tyA (bkAt ws m2))) (wd ws (tyA (bkAt ws m2)+1))).length:=rfl
  unfold za8 at h7
  exact ⟨i,by rw[i3,hat];omega,i1,by omega,e3⟩
theorem zgm {ws:List Nat} (h:zae ws=0) {a:Nat} (ho:zep ws a) {b:Bk} (hb:b ∈ zab ws):b.at_≤(a:Int)∧(b.at_=(a:Int)∨b.at_+2≤(a:Int))∨((a+szAt ws a:Nat):Int)≤b.at_:=by
 obtain ⟨o1,o2,o3,o4,o5,o6,k,hk,e,hbk⟩:=ho
 obtain ⟨j,hj,rfl⟩:=List.getElem_of_mem hb
 rcases Nat.lt_or_ge k j with h1|h1
 · rw[zaz o3 o4] at hbk
   cases hq:blocks ws (a+szAt ws a) with
   | none=>rw[hq] at hbk;cases hbk
   | some l' =>
     rw[hq] at hbk
     simp only[Option.map_some,Option.some.injEq] at hbk
     have hd:l'=(zab ws).drop (k+1):=by
      have:=congrArg (List.drop 1) hbk
      rw[List.drop_drop] at this
      simpa using this
     have hm:(zab ws)[j] ∈ l':=by
      rw[hd]
      refine List.mem_iff_getElem.2 ⟨j - (k+1),by rw[List.length_drop];omega,?_⟩
      rw[List.getElem_drop]
      congr 1
      omega
     have:=(zko _ _ hq).1 _ hm
     exact .inr this
 · have hp:=(zb1 h).2
   rw[List.pairwise_iff_getElem] at hp
   have ha:(zab ws)[k].at_=(a:Int):=by rw[e,zaa]
   obtain ⟨c,ec,c1,c2,-⟩:=(zb1 h).1 _ (List.getElem_mem hj)
   have hc:(zab ws)[j].at_=(c:Int):=by rw[ec,zaa]
   left
   rcases Nat.lt_or_ge j k with h2|h2
   · have:=hp j k hj hk h2
     omega
   · have:j=k:=by omega
     subst this
     omega
end Go.Proofs.YtpcajamacpbjcaaGreat
namespace Go.Proofs.YtpcajamacpbjcaaGreat
open Go.RowKit
structure I3 (x:List Nat):Prop where
 ck:zao x=0
 p3:wd x 16=3
 hp:zae x=0
 sl:wd x 17=0→zey x=0
 fx:zD5 x (wd x 17)
theorem I3.rd {x:List Nat} (h:I3 x):zbi x 128 128=0:=by
 have:=h.ck
 unfold zao at this
 rw[if_pos (zjw h.ck),if_neg (by rw[h.p3];decide),if_pos h.p3] at this
 exact this
theorem hd_put {x:List Nat} {E:List En} (h:zae x=0) (hE:∀ e ∈ E,e.a<19∨112≤e.a∧∀ b ∈ zab x,e.a≠b.at_∧e.a≠b.at_+1):Hd x (zag x E):=by
 refine ⟨zau _ _,fun i h1 h2=>za9 _ _ _ fun e he h3 => ?_,fun b hb => ?_⟩
 · rcases hE e he with h4|h4 <;> omega
 · obtain ⟨a,rfl,a1,-⟩:=(zb1 h).1 b hb
   have hat:(bkAt x a).at_=(a:Int):=zaa x a
   rw[hat,Int.toNat_natCast]
   refine ⟨za9 _ _ _ fun e he h3 => ?_,za9 _ _ _ fun e he h3 => ?_⟩
   · rcases hE e he with h4|⟨-,h4⟩
     · omega
     · exact (h4 _ hb).1 (by rw[hat];exact h3)
   · rcases hE e he with h4|⟨-,h4⟩
     · omega
     · exact (h4 _ hb).2 (by rw[hat,h3];rfl)
theorem zve {x:List Nat} {E:List En} (h:zae x=0) (hE:∀ e ∈ E,e.a<19∨112≤e.a∧e.a<128):Hd x (zag x E):=hd_put h fun e he=>by
 rcases hE e he with h1|h1
 · exact .inl h1
 · refine .inr ⟨h1.1,fun b hb => ?_⟩
   obtain ⟨a,rfl,a1,-⟩:=(zb1 h).1 b hb
   have hat:(bkAt x a).at_=(a:Int):=zaa x a
   rw[hat]
   omega
theorem zAv {x xs:List Nat} (h:Hd x xs) (h0:zae x=0) {m:Nat} (hm:bkAt xs m ∈ zab xs):bkAt x m ∈ zab x∧bkAt xs m=bkAt x m:=by
 rw[(h.heap h0).2] at hm
 obtain ⟨a,e,-⟩:=(zb1 h0).1 _ hm
 have h3:=congrArg Bk.at_ e
 rw[zaa,zaa] at h3
 obtain rfl:m=a:=by omega
 rw[e] at hm
 exact ⟨hm,e⟩
theorem hd_bd {x xs:List Nat} (h:Hd x xs) (h0:zae x=0) {a:Nat} (hb:Bd x a):Bd xs a:=by
 obtain ⟨h1,k,hk,h2⟩:=hb
 refine ⟨h1,k,by rw[(h.heap h0).2];exact hk,?_⟩
 rw[(h.heap h0).2]
 exact h.blocks a _ h2 fun b hb=>List.mem_of_mem_drop hb
theorem zo9 {x:List Nat} (ho:∀ v ∈ x,v<18446744073709551616) (h:I3 x):(zac x).1=0∧(I3 (zag x (zac x).2)∨wd (zag x (zac x).2) 16=4∧wd (zag x (zac x).2) 17=128∧wd (zag x (zac x).2) 18=128∧Hd x (zag x (zac x).2)∧zcs (zag x (zac x).2)=0):=by
 have p3:=h.p3
 have e:zac x=zdg x:=by unfold zac;rw[if_pos h.ck,if_neg (by omega),if_neg (by omega),if_pos p3]
 obtain ⟨-,hs,hl,hph⟩:=zck h.ck
 have hb:=(zad _).1 hs
 obtain ⟨⟨l1,l2,l3⟩,-⟩:=(zbn x).1 hl
 have hrd:=h.rd
 by_cases z:wd x 17=0
 · have hfs:=h.sl z
   have e2:zdg x=(0,⟨17,128⟩ :: zec x):=by unfold zdg;rw[if_pos z,if_pos hfs]
   have h0:(zac x).1=0:=by rw[e,e2]
   obtain ⟨-,-,k3,-⟩:=zlu ho h0
   refine ⟨h0,.inl ?_⟩
   obtain ⟨-,-,-,-,-,-,-,q1,q2,q3,-⟩:=zip hfs
   obtain ⟨g1,g2,g3,g4,g5,g6⟩:=zii (f:=128) (l:=zec x) h.ck p3 (by decide) (by omega) (by omega) (by omega) q2 (fun e he=>by have:=(q1 e he).1;omega) (fun e he=>(q1 e he).2)
   have hd:Hd x (zag x (⟨17,128⟩ :: zec x)):=zve h.hp fun e he=>by
     rcases List.mem_cons.1 he with rfl|he
     · exact .inl (by dsimp only;omega)
     · exact .inr (q1 e he).1
   rw[e,e2] at k3 ⊢
   dsimp only at k3 ⊢
   have hhp:=(hd.heap h.hp).1
   have hln:zcx (zag x (⟨17,128⟩ :: zec x))=0:=by
     unfold zcx
     rw[if_pos k3,if_neg]
     rintro ⟨-,-,h3⟩
     rw[g5,bd_is hhp (zG6 hhp) (by rw[hd.len];omega)] at h3
     cases h3
   refine ⟨?_,g4,hhp,fun h1 => ?_,fun m h1 h2 h3 => ?_⟩
   · unfold zao
     rw[if_pos hln,if_neg (by rw[g4];decide),if_pos g4]
     exact (hd.rd h.hp hrd).1
   · rw[g5] at h1;cases h1
   · obtain ⟨m1,m2⟩:=zAv hd h.hp h1
     rw[m2] at h2
     have hob:=h.fx m m1 h2 (by omega)
     refine (hd.ob hob fun r hr => ?_).1
     obtain ⟨i,rfl,i1,i2,i3⟩:=zgl h.hp hr
     rw[Int.toNat_natCast]
     refine za9 _ _ _ fun e he h5 => ?_
     have:=i3.1
     rcases List.mem_cons.1 he with rfl|he
     · dsimp only at h5;omega
     · have:=(q1 e he).1;omega
 · have hF:128≤wd x 17:=by
     rcases (zcp _ _ _).1 hph with h1|⟨-,-,h1⟩|h1
     · omega
     · rcases h1 with h1|h1
       · exact absurd h1 z
       · exact ((za7 _).1 h1).1
     · omega
   have e2:zdg x=zkn x (wd x 17):=by unfold zdg;rw[if_neg z]
   have hbd:Bd x (wd x 17):=by
     refine bd_of h.hp ?_
     have hln:=zjw h.ck
     unfold zcx at hln
     by_cases hb1:zo1 x (wd x 17)=true
     · exact hb1
     · split at hln
       · rw[if_pos ⟨p3,z,by simpa using hb1⟩] at hln;cases hln
       · exact absurd hln (by assumption)
   obtain ⟨f1,f2⟩:=zBp _ (wd x 17) (Nat.le_refl _) hbd h.fx
   have h0:(zac x).1=0:=by rw[e,e2];exact f1
   obtain ⟨-,-,k3,-⟩:=zlu ho h0
   refine ⟨h0,?_⟩
   rcases f2 with f2|⟨m,m1,m2,m3,m4,m5,m6,m7⟩
   · right
     rw[e,e2,f2] at k3 ⊢
     obtain ⟨g1,g2,g3,g4,g5,g6⟩:=zgd h.ck p3
     refine ⟨g4,g5,g6,zve h.hp fun e he => ?_,k3⟩
     simp only[zb3,List.mem_cons,List.not_mem_nil,or_false] at he
     rcases he with rfl|rfl|rfl <;> exact .inl (by dsimp only;omega)
   · left
     rw[e,e2,m7] at k3 ⊢
     dsimp only at k3 ⊢
     have hob:=h.fx m m5 m6 m1
     obtain ⟨f,-,-,-,-,q5,q6,q7,q10,q9⟩:=zhb hob
     have q8:=zF5 hob
     have hme:m % 2=0∧szAt x m % 2=0:=by
       obtain ⟨a,ea,a1,a2,a3,a4⟩:=(zb1 h.hp).1 _ m5
       have h3:=congrArg Bk.at_ ea
       rw[zaa,zaa] at h3
       obtain rfl:m=a:=by omega
       have:=zav a4
       omega
     obtain ⟨g1,g2,g3,g4,g5,g6⟩:=zii (f:=m+szAt x m) (l:=zct x (m:Int)) h.ck p3 ((za7 _).2 (by omega)) m3 (by omega) (by omega) q9 (fun e he=>by have:=q8 e he;omega) (fun e he=>by have:=q8 e he;omega)
     have hoff:∀ j:Nat,j≠17→(∀ r ∈ zb0 x (m:Int),r≠(j:Int))→wd (zag x (⟨17,m+szAt x m⟩ :: zct x (m:Int))) j=wd x j:=by
       intro j h17 hj
       refine za9 _ _ _ fun e he h5 => ?_
       rcases List.mem_cons.1 he with rfl|he
       · dsimp only at h5;omega
       · obtain ⟨r,r1,r2,r3,r4⟩:=q10 e he
         obtain rfl:r=j:=by omega
         have h6:=q7 r (fun i hi hf=>hj _ (List.getElem_mem hi) (by rw[(q6 i hi).1,hf]))
         have hit:=zdu _ x q9 e he (by omega) (by omega)
         rw[r1,Int.toNat_natCast,h6] at hit
         exact r3 hit
     have hd:Hd x (zag x (⟨17,m+szAt x m⟩ :: zct x (m:Int))):=by
       refine ⟨zau _ _,fun i h1 h2=>hoff i (by omega) fun r hr hri => ?_,fun b hb => ?_⟩
       · obtain ⟨i',e1,-,-,i3⟩:=zgl h.hp hr
         have:=i3.1
         omega
       · obtain ⟨a,rfl,a1,a2,-⟩:=(zb1 h.hp).1 b hb
         have hat:(bkAt x a).at_=(a:Int):=zaa x a
         rw[hat,Int.toNat_natCast]
         refine ⟨hoff _ (by omega) fun r hr hri => ?_,hoff _ (by omega) fun r hr hri => ?_⟩
         · obtain ⟨i',e1,i1,i2,i3⟩:=zgl h.hp hr
           have:=zgm h.hp i3 hb
           rw[hat] at this
           omega
         · obtain ⟨i',e1,i1,i2,i3⟩:=zgl h.hp hr
           have:=zgm h.hp i3 hb
           rw[hat] at this
           omega
     have hhp:=(hd.heap h.hp).1
     have hln:zcx (zag x (⟨17,m+szAt x m⟩ :: zct x (m:Int)))=0:=by
       unfold zcx
       rw[if_pos k3,if_neg]
       rintro ⟨-,-,h3⟩
       rw[g5,bd_is hhp (hd_bd hd h.hp m4) (by rw[hd.len];omega)] at h3
       cases h3
     refine ⟨?_,g4,hhp,fun h1 => ?_,fun m' h1 h2 h3 => ?_⟩
     · unfold zao
       rw[if_pos hln,if_neg (by rw[g4];decide),if_pos g4]
       exact (hd.rd h.hp hrd).1
     · rw[g5] at h1;omega
     · obtain ⟨n1,n2⟩:=zAv hd h.hp h1
       rw[n2] at h2
       rw[g5] at h3
       have hob2:=h.fx m' n1 h2 (by omega)
       refine (hd.ob hob2 fun r hr => ?_).1
       obtain ⟨i,rfl,i1,i2,i3⟩:=zgl h.hp hr
       rw[Int.toNat_natCast]
       refine hoff _ (by have:=i3.1;omega) fun r2 hr2 hri => ?_
       obtain ⟨i',e1,j1,j2,j3⟩:=zgl h.hp hr2
       omega
end Go.Proofs.YtpcajamacpbjcaaGreat
namespace Go.Proofs.YtpcajamacpbjcaaGreat
open Go.RowKit
theorem zBv (x:List Nat) (t:Nat):mvd x t t=true:=by
 unfold mvd
 cases t with
 | zero=>unfold zDi;simp
 | succ t=>unfold zDi;rw[if_neg (by omega)];simp
theorem zpl:∀ n x,(∀ v ∈ x,v<18446744073709551616)→mzS 3 x≤n→I3 x→(zc7 3 x).1=0∧wd (zc7 3 x).2.2 16=4∧wd (zc7 3 x).2.2 17=128∧wd (zc7 3 x).2.2 18=128∧zao (zc7 3 x).2.2=0∧zae (zc7 3 x).2.2=0∧1≤(zc7 3 x).2.1.length:=by
 intro n
 induction n with
 | zero=>intro x _ h h3;exfalso;have:=h3.p3;unfold mzS at h;rw[if_pos this] at h;omega
 | succ n ih =>
  intro x ho h h3
  obtain ⟨h0,hst⟩:=zo9 ho h3
  have hd:=zfj ho h3.p3 h0
  rw[zdp ho h3.p3 h0]
  rcases hst with hst|⟨g1,g2,g3,g4,g5⟩
  · obtain ⟨i1,i2,i3,i4,i5,i6,i7⟩:=ih _ (zdf ho h0) (by omega) hst
    rw[if_pos i1]
    exact ⟨rfl,i2,i3,i4,i5,i6,by simp⟩
  · rw[zcj (by omega),if_pos rfl]
    refine ⟨rfl,g1,g2,g3,?_,(g4.heap h3.hp).1,by simp⟩
    unfold zao
    rw[if_pos (zIg g5 (by omega)),if_pos g1]
    dsimp only
    rw[g3,g2,if_pos (zBv _ _)]
    exact (g4.rd h3.hp h3.rd).1
theorem zCy {x:List Nat} (ho:∀ v ∈ x,v<18446744073709551616) (hp:zcs x=0) (p3:wd x 16=3) (p17:wd x 17=0) (hrc:zap x=0) (hw:za4 x=[]) (hn:za0 x=[]):I3 x:=by
 obtain ⟨x1,x2,M,e1,e2,s1,s2,s3,s4,s5,-⟩:=zuc hrc ho
 rw[hw] at e1
 have e1:x1=x:=e1
 subst e1
 rw[hn] at e2
 have e2:x2=x1:=e2
 subst e2
 have hhp:=(zas hrc).1
 have hln:zcx x2=0:=by
   unfold zcx
   rw[if_pos hp,if_neg]
   rintro ⟨-,h,-⟩
   exact h p17
 refine ⟨?_,p3,hhp,fun _=>s4,fun m m1 m2 _ => ?_⟩
 · unfold zao
   rw[if_pos hln,if_neg (by omega),if_pos p3]
   exact s2
 · have hb:=(zfi hhp).2.2.2
   obtain ⟨-,-,l,r3,-,r5⟩:=zb8 s2
   rw[show ((128:Int)).toNat=128 from rfl,hb] at r3
   obtain rfl:=Option.some.inj r3
   have hmk:=zky (zh3 hb (by omega)) 128
   have hm:(m:Int) ∈ zd8 (zab x2):=by
    unfold zd8
    refine List.mem_map.2 ⟨bkAt x2 m,List.mem_filter.2 ⟨m1,m2⟩,zaa x2 m⟩
   rw[hmk] at hm
   obtain ⟨q,hq,hqe⟩:=List.mem_map.1 hm
   rw[←hqe]
   exact s5 q (by rw[←s3,r5];exact hq)
end Go.Proofs.YtpcajamacpbjcaaGreat
namespace Go.Proofs.YtpcajamacpbjcaaGreat
open Go.RowKit
section
variable {ws xs:List Nat}
theorem zAo (h:∀ j,96≤j→wd xs j=wd ws j) (b:Bk):zds xs b=zds ws b:=by
 unfold zds zc2
 rw[h (tyA b) (by unfold tyA;omega),h (tyA b+1) (by unfold tyA;omega)]
theorem zGx (h:∀ j,96≤j→wd xs j=wd ws j):∀ (l:List Bk) (s:Int),zbz xs l s=zbz ws l s:=by
 intro l
 induction l with
 | nil=>intro s;rfl
 | cons b l ih =>
  intro s
  simp only[zbz]
  rw[zAo h,ih,ih]
theorem zEx (hn:xs.length=ws.length) (h:∀ j,96≤j→wd xs j=wd ws j) {f s:Int} (hf:96≤f.toNat):zbi xs f s=zbi ws f s:=by
 unfold zbi zk2
 rw[hn,zek hn f.toNat (fun j hj=>h j (by omega))]
 cases blocks ws f.toNat with
 | none=>rfl
 | some l=>dsimp only;rw[zGx h]
theorem zFw {t:Nat} (h:∀ j,96≤j→j<t→wd xs j=wd ws j) (ht:zpy xs t=true) (h128:128≤t):∀ n i,t - i≤n→128≤i→mvd ws i t=true→mvd xs i (t+szAt xs t)=true:=by
 have hsz:=zkv ht
 have hlast:mvd xs t (t+szAt xs t)=true:=by
  rw[zjs (by omega) ht,zjg (Nat.le_refl _)]
  simp
 intro n
 induction n with
 | zero =>
  intro i h1 h2 h3
  rw[zjg (by omega),beq_iff_eq] at h3
  subst h3
  exact hlast
 | succ n ih =>
  intro i h1 h2 h3
  by_cases hi:i<t
  · cases hm:zpy ws i with
    | false=>rw[zs5 hi hm] at h3;cases h3
    | true =>
     have hz:=zkv hm
     rw[zjs hi hm] at h3
     have e1:wd xs i=wd ws i:=h i (by omega) hi
     have hmx:zpy xs i=true:=by
      unfold zpy at hm ⊢
      rw[e1]
      simp only[Bool.and_eq_true,beq_iff_eq] at hm ⊢
      obtain ⟨m1,m2,m3,m4⟩:=hm
      refine ⟨m1,m2,m3,?_⟩
      unfold zar at m1
      rw[Bool.and_eq_true] at m1
      have h7:=(zbo _).1 m1.1
      unfold zc2 at m4 ⊢
      rw[h (tyA (zaf (wd ws i))) (by unfold tyA;omega) (by unfold tyA;omega),h (tyA (zaf (wd ws i))+1) (by unfold tyA;omega) (by unfold tyA;omega)]
      exact m4
     have es:szAt xs i=szAt ws i:=by unfold szAt;rw[e1]
     rw[zjs (by omega) hmx,es]
     exact ih (i+szAt ws i) (by omega) (by omega) h3
  · rw[zjg (by omega),beq_iff_eq] at h3
    subst h3
    exact hlast
theorem zKh {ws:List Nat}:∀ {k:Nat} {l:List Bk} {s:Int},k≤l.length→zeq l k→zbz ws l s=true→zbz ws (l.drop k) s=true:=by
 intro k
 induction k with
 | zero=>intro l s _ _ h;exact h
 | succ k ih =>
  intro l s hk hn h
  cases l with
  | nil=>simp at hk
  | cons b l =>
   have hb:b.mark=false:=hn 0 (by omega)
   have hlv:zax b=false:=by unfold zax;rw[hb];simp
   simp only[zbz,hlv,Bool.and_eq_true] at h
   rw[List.drop_succ_cons]
   refine ih (by simpa using hk) (fun j hj => ?_) (by simpa using h.2)
   have:=hn (j+1) (by omega)
   exact this
theorem zEy {x:List Nat} (ho:∀ v ∈ x,v<18446744073709551616) (hck:zao x=0) (p4:wd x 16=4) (hnx:zbj x ((wd x 17:Nat):Int)=0):(zac x).1=0∧wd (zag x (zac x).2) 16=4∧zao (zag x (zac x).2)=0:=by
 have e:zac x=zes x:=by unfold zac;rw[if_pos hck,if_neg (by omega),if_neg (by omega),if_neg (by omega),if_pos p4]
 obtain ⟨-,hs,hl,hph⟩:=zck hck
 have hb:=(zad _).1 hs
 have hmd:mvd x 128 (wd x 18)=true∧zbi x ((wd x 17:Nat):Int) ((wd x 18:Nat):Int)=0:=by
  have:=hck
  unfold zao at this
  rw[if_pos (zjw hck),if_pos p4] at this
  by_cases hm:mvd x 128 (wd x 18)=true
  · rw[if_pos hm] at this;exact ⟨hm,this⟩
  · rw[if_neg hm] at this;cases this
 obtain ⟨hm,hrd⟩:=hmd
 obtain ⟨-,a1,a2,m,em,m1,m2,m3,m4,m5,m6,m7,m8,l,q1,-,-,k,q2,q3,q4⟩:=zfc hnx
 obtain ⟨r1,r2,l2,r3,r4,-⟩:=zb8 hrd
 rw[Int.toNat_natCast,q1] at r3
 obtain rfl:=Option.some.inj r3
 obtain ⟨u1,u2,u3,u4,u5⟩:=zgb r2
 have hrm:zbi x (m:Int) ((wd x 18:Nat):Int)=0:=by
  have hra:zgy x.length (m:Int) ((wd x 18:Nat):Int)=false:=by
    cases hq:zgy x.length (m:Int) ((wd x 18:Nat):Int) with
    | false=>rfl
    | true=>exact absurd ⟨by omega,by omega,by omega,by omega,by omega⟩ ((zju _ _ _).1 hq)
  rw[zg6 r1 hra (l:=l.drop k) (by rw[Int.toNat_natCast];exact q4),if_pos (zKh (by omega) q3 r4)]
 obtain ⟨f1,f2,f3,f4⟩:=zcc q4 (by omega)
 have hmv:zex x (m:Int) ((wd x 18:Nat):Int)=0:=by
  unfold zex
  rw[if_pos hrm,Int.toNat_natCast,q4]
  cases hd:l.drop k with
  | nil=>rw[hd] at f1;simp at f1
  | cons c t =>
    dsimp only
    rw[hd] at f2
    have hc:c=bkAt x m:=by rw[←f2];rfl
    rw[hc,m7]
    rfl
 have e2:zes x=(0,⟨17,m+szAt x m⟩ :: ⟨18,wd x 18+szAt x m⟩ :: zix x m (wd x 18)):=by
  unfold zes
  rw[if_pos hnx,em,zaa,if_pos hmv,zba,show ((m:Int)+((szAt x m:Nat):Int)).toNat=m+szAt x m by omega,show (((wd x 18:Nat):Int)+((szAt x m:Nat):Int)).toNat=wd x 18+szAt x m by omega]
  unfold zi3
  rw[if_pos hmv,Int.toNat_natCast,Int.toNat_natCast]
 have h0:(zac x).1=0:=by rw[e,e2]
 obtain ⟨-,-,k3,-⟩:=zlu ho h0
 obtain ⟨a,u,n,ea,eu,en,n2,n10,hu,hua,han,hst,hlv,⟨l3,-,-,-,s4,-⟩,hun,hhd⟩:=zfy hmv
 have ea:a=m:=by omega
 have eu:u=wd x 18:=by omega
 subst ea
 subst en
 have eu':=eu
 have g4:=(zz3 ho hck p4 (by rw[←e];exact h0)).1
 have hmve:=zz8 (ws:=x) (a:=a) (u:=u) (by omega)
 rw[←hmve] at s4 hun
 rw[←eu] at e2
 rw[←e] at g4
 have hin:(zix x a u).Pairwise (fun a b=>a.a<b.a):=by
  rw[List.pairwise_iff_getElem]
  intro i j hi hj hij
  rw[zf2,zf2];omega
 have hme:∀ e ∈ zix x a u,(u:Int)≤e.a∧e.a<((u+szAt x a:Nat):Int):=fun e he=>by
  obtain ⟨k,hk,rfl⟩:=List.getElem_of_mem he
  rw[zf2]
  rw[zg8] at hk
  omega
 have hx:∀ j:Nat,19≤j→wd (zag x (zac x).2) j=wd (zag x (zix x a u)) j:=by
  intro j hj
  rw[e,e2,show (⟨17,a+szAt x a⟩ :: ⟨18,u+szAt x a⟩ :: zix x a u:List En)=[⟨17,a+szAt x a⟩,⟨18,u+szAt x a⟩]++zix x a u from rfl,zea]
  by_cases hj2:∃ e ∈ zix x a u,e.a=(j:Int)
  · obtain ⟨e',he,h5⟩:=hj2
    have hm2:=hme e' he
    have t1:=zdu (zix x a u) (zag x [⟨17,a+szAt x a⟩,⟨18,u+szAt x a⟩]) hin e' he (by omega) (by rw[zau];omega)
    have t2:=zdu (zix x a u) x hin e' he (by omega) (by omega)
    rw[show e'.a.toNat=j by omega] at t1 t2
    rw[t1,t2]
  · rw[za9 _ _ _ (fun e he h=>hj2 ⟨e,he,h⟩),za9 _ _ _ (fun e he h=>hj2 ⟨e,he,h⟩)]
    refine za9 _ _ _ fun e he h => ?_
    simp only[List.mem_cons,List.not_mem_nil,or_false] at he
    rcases he with rfl|rfl <;> (dsimp only at h;omega)
 have hfp:=(zcp _ _ _).1 hph
 obtain ⟨j1,j2,-,j4,j5,j6⟩:=zne (f:=a+szAt x a) (t:=u+szAt x a) (l:=zix x a u) hck p4 ((za7 _).2 (by omega)) ((za7 _).2 (by omega)) (by omega) (by omega) (by omega) (by omega) (by rw[zg8];omega) hin (fun e he=>by have:=hme e he;omega) (ztj ho hhd)
 have hlen:(zag x (zac x).2).length=x.length:=zau _ _
 have hlow:∀ j:Nat,96≤j→j<u→wd (zag x (zac x).2) j=wd x j:=fun j h1 h2=>by
  rw[hx j (by omega)]
  exact za9 _ _ _ fun e he h=>by have:=hme e he;omega
 have hwu:wd (zag x (zac x).2) u=zcg { zaf (wd x a) with mark:=false }:=by rw[hx u (by omega)];exact hun
 have hraw:zaf (wd (zag x (zac x).2) u)={ zaf (wd x a) with mark:=false }:=by rw[hwu,ziu hhd];rfl
 have hsz:szAt (zag x (zac x).2) u=szAt x a:=by
  have:=congrArg Bk.size hraw
  have e1:(zaf (wd (zag x (zac x).2) u)).size=((szAt (zag x (zac x).2) u:Nat):Int):=rfl
  have e3:({ zaf (wd x a) with mark:=false }:Bk).size=((szAt x a:Nat):Int):=rfl
  rw[e1,e3] at this
  omega
 have hty:zc2 x (bkAt x a)=true:=by
  obtain ⟨-,-,l4,w3,w4,-⟩:=zb8 hrm
  rw[Int.toNat_natCast,q4] at w3
  obtain rfl:=Option.some.inj w3
  cases hd:l.drop k with
  | nil=>rw[hd] at f1;simp at f1
  | cons c t =>
    rw[hd] at f2 w4
    have hc:c=bkAt x a:=by rw[←f2];rfl
    rw[hc] at w4
    simp only[zbz,Bool.and_eq_true] at w4
    have hf:=w4.1
    unfold zds at hf
    rw[m8] at hf
    simpa using hf
 have hmo:zpy (zag x (zac x).2) u=true:=by
  have h7:=(zbo _).1 hhd
  have hk1:(zaf (wd x a)).kind=1:=m8
  unfold zpy zar
  rw[hraw,hwu,hhd,hk1]
  simp only[beq_self_eq_true,Bool.true_and,Bool.not_false]
  unfold zc2 at hty ⊢
  have et:tyA ({ zaf (wd x a) with mark:=false }:Bk)=tyA (bkAt x a):=rfl
  have htl:tyA (bkAt x a)+1<112:=by
    have:(bkAt x a).typ=(zaf (wd x a)).typ:=rfl
    unfold tyA
    rw[this]
    dsimp only at h7
    omega
  rw[et,hlow _ (by unfold tyA;omega) (by omega),hlow _ (by unfold tyA;omega) (by omega)]
  exact hty
 have hg:=zFw hlow hmo hu (u - 128) 128 (by omega) (by omega) (by rw[eu'];exact hm)
 rw[hsz] at hg
 have g5:wd (zag x (zac x).2) 17=a+szAt x a:=by rw[e,e2];exact j5
 have g6:wd (zag x (zac x).2) 18=u+szAt x a:=by rw[e,e2];exact j6
 refine ⟨h0,g4,?_⟩
 unfold zao
 rw[if_pos (zIg k3 (by omega)),if_pos g4,g5,g6,if_pos hg,zEx (ws:=zag x (zix x a u)) (by rw[zau,zau]) (fun j hj=>hx j (by omega)) (by omega)]
 exact s4
end
end Go.Proofs.YtpcajamacpbjcaaGreat
namespace Go.Proofs.YtpcajamacpbjcaaGreat
open Go.RowKit
theorem zH1 {x:List Nat} (hck:zao x=0) (p4:wd x 16=4) (hnx:zbj x ((wd x 17:Nat):Int)≠0):zew x=0:=by
 obtain ⟨hs,-,a,e,h1,h2,h3,l,h4,h5⟩:=zyq hck (by omega)
 obtain ⟨-,-,-,hph⟩:=zck hck
 have hF:128≤wd x 17:=by
  rcases (zcp _ _ _).1 hph with h1|h1|h1
  · exact ((za7 _).1 h1.2.1).1
  · omega
  · omega
 have ea:a=wd x 17:=by
  unfold zf7 at e
  rw[if_neg (by omega)] at e
  omega
 subst ea
 have hl:lfN x=0:=by
  rw[h5]
  by_cases hz:0<(zd8 l).length
  · obtain ⟨m,z,l',k1,-⟩:=zm0 hs h1 h2 h3 h4 hz
    exact absurd k1 hnx
  · omega
 unfold zew
 rw[if_pos hck,if_pos ⟨p4,hl⟩]
end Go.Proofs.YtpcajamacpbjcaaGreat
namespace Go.Proofs.YtpcajamacpbjcaaGreat
open Go.RowKit
theorem zsv {x:Nat} (h:zar x=true) (hk:(zaf x).kind=1) (m n:Bool):zf1 (zf1 x m) n=zf1 x n:=by
 obtain ⟨h1,h2,-,-⟩:=zhg h hk m
 obtain ⟨y,hy⟩:∃ y,zf1 x m=y:=⟨_,rfl⟩
 rw[hy] at h1 h2 ⊢
 unfold zf1
 rw[if_pos h1,if_pos h]
 unfold zg0
 rw[h2]
theorem RmL.trans {ws xs ys:List Nat} (h:RmL ws xs) (g:RmL xs ys):RmL ws ys:=by
 refine ⟨g.len.trans h.len,fun i hi => ?_⟩
 rcases g.at_ i hi with g1|⟨g1,g2,g3,g4,m,g5⟩
 · rw[g1];exact h.at_ i hi
 · rcases h.at_ i hi with h1|⟨h1,h2,h3,h4,m0,h5⟩
   · rw[h1] at g3 g4 g5
     exact .inr ⟨g1,g2,g3,g4,m,g5⟩
   · exact .inr ⟨g1,g2,h3,h4,m,by rw[g5,h5,zsv h3 h4]⟩
theorem Rm.toL {ws xs:List Nat} (h:Rm ws xs):RmL ws xs:=⟨h.len,fun i _=>h.at_ i⟩
theorem NxL.trans {ws xs ys:List Nat} (h0:zae ws=0) (h:NxL ws xs) (g:NxL xs ys):NxL ws ys:=by
 refine ⟨g.len.trans h.len,fun i hi => ?_⟩
 rcases g.at_ i hi with g1|⟨b,hb,g1⟩
 · rw[g1];exact h.at_ i hi
 · rw[((h.ev h0).heap h0).2] at hb
   obtain ⟨b0,hb0,rfl⟩:=List.mem_map.1 hb
   exact .inr ⟨b0,hb0,g1⟩
theorem mkd_nx (xs:List Nat) (l:List Bk):zd8 (l.map (nxB xs))=zd8 l:=by
 induction l with
 | nil=>rfl
 | cons b l ih =>
  unfold zd8 at ih ⊢
  rw[List.map_cons]
  have e:(nxB xs b).mark=b.mark:=rfl
  have e2:(nxB xs b).at_=b.at_:=rfl
  simp only[List.filter_cons,e]
  split
  · simp only[List.map_cons,e2,ih]
  · exact ih
theorem zv4 (xs:List Nat):∀ (l:List Bk) (s:Int),zal (l.map (nxB xs)) s=zal l s:=by
 intro l
 induction l with
 | nil=>intro s;rfl
 | cons b l ih =>
  intro s
  have e:zax (nxB xs b)=zax b:=rfl
  have e2:(nxB xs b).at_=b.at_:=rfl
  have e3:(nxB xs b).size=b.size:=rfl
  simp only[List.map_cons,zal,e,e2,e3,ih]
theorem zz9 {n:Nat} {E:List En} (h:Small n E) {ws:List Nat} {i:Nat} (hi:i<16∨19≤i∧i<112):wd (zag ws E) i=wd ws i:=za9 _ _ _ fun e he=>by have:=(h.ins e he).1;omega
theorem zp9 {p:Nat} {i:Nat} (hi:i<16∨19≤i∧i<112):∀ n x,(∀ v ∈ x,v<18446744073709551616)→mzS p x≤n→(zc7 p x).1=0→wd (zc7 p x).2.2 i=wd x i:=by
 intro n
 induction n with
 | zero =>
  intro x ho h _
  have hp:wd x 16≠p:=fun hp=>by unfold mzS at h;rw[if_pos hp] at h;omega
  rw[zcj hp]
 | succ n ih =>
  intro x ho h hz
  by_cases hp:wd x 16=p
  · by_cases h6:(zac x).1=6
    · rw[zjl hp h6]
    · by_cases h0:(zac x).1=0
      · have hd:=zfj ho hp h0
        rw[zdp ho hp h0] at hz ⊢
        by_cases h1:(zc7 p (zag x (zac x).2)).1=0
        · rw[if_pos h1]
          have:=ih (zag x (zac x).2) (zdf ho h0) (by omega) h1
          exact this.trans (zz9 (zlu ho h0).2.1 hi)
        · rw[if_neg h1] at hz
          exact absurd hz h1
      · rw[zqe hp h6 h0] at hz
        exact absurd hz h0
  · rw[zcj hp]
def HsL (ws xs:List Nat):Prop:=∀ i:Nat,19≤i→wd xs i=wd ws i∨∃ b ∈ zab ws,(i:Int)=b.at_
theorem zHw {x:List Nat} {E:List En} (hE:∀ e ∈ E,e.a<19∨∃ b ∈ zab x,e.a=b.at_):HsL x (zag x E):=fun i h19=>by
 by_cases hx:∃ b ∈ zab x,(i:Int)=b.at_
 · exact .inr hx
 · refine .inl (za9 _ _ _ fun e he h2 => ?_)
   rcases hE e he with h3|⟨b,hb,h3⟩
   · omega
   · exact hx ⟨b,hb,by rw[←h3,h2]⟩
theorem zu6 {x:List Nat} (h:zap x=0):∀ e ∈ za4 x,∃ b ∈ zab x,e.a=b.at_:=fun e he=>by
 obtain ⟨a,hm,-,-,-,-,-,rfl,-⟩:=zdo h he
 exact ⟨_,hm,(zaa x a).symm⟩
theorem zGf:∀ n x,(∀ v ∈ x,v<18446744073709551616)→mzS 1 x≤n→wd x 16=1→zao x=0→zap x=0→RmL x (zc7 1 x).2.2∧HsL x (zc7 1 x).2.2∧zap (zc7 1 x).2.2=0∧za3 (zc7 1 x).2.2=za3 x∧zd8 (zab (zc7 1 x).2.2)=za3 x:=by
 intro n
 induction n with
 | zero=>intro x _ h p1;exfalso;unfold mzS at h;rw[if_pos p1] at h;omega
 | succ n ih =>
  intro x ho h p1 hck hrc
  have e:zac x=(0,zg1 (za4 x) 2):=by unfold zac;rw[if_pos hck,if_pos p1,if_pos hrc]
  have h0:(zac x).1=0:=by rw[e]
  have hd:=zfj ho p1 h0
  obtain ⟨-,-,k3,-,-,-,-,-⟩:=zlu ho h0
  obtain ⟨r1,r2⟩:=zqd hrc
  obtain ⟨g1,g2,g3,g4,g5,g6⟩:=zfe hck p1 (.inl rfl) (zdq hrc) (fun y hy=>by
    obtain ⟨i,hi⟩:=List.mem_iff_getElem?.1 hy
    exact r1 i y hi) (zo6 hrc)
  simp only[Nat.reduceAdd] at g4
  rw[zdp ho p1 h0]
  by_cases h32:32≤(za4 x).length
  · rw[if_pos h32] at g4
    obtain ⟨hrc2,hro⟩:=zI8 p1 h0 h32
    have hrm:RmL x (zag x (zac x).2):=by
      rw[e,zcd h32]
      exact (zg4 hrc (List.take_sublist 31 _)).toL
    have hhs:HsL x (zag x (zac x).2):=by
      rw[e,zcd h32]
      exact zHw fun e he=>.inr (zu6 hrc e (List.mem_of_mem_take he))
    have p1':wd (zag x (zac x).2) 16=1:=by rw[e];exact g4
    have hck2:zao (zag x (zac x).2)=0:=zxu k3 (by omega) (by omega) (zas hrc2).1
    obtain ⟨i1,-⟩:=zvb _ _ (zdf ho h0) (Nat.le_refl _) p1' hck2 hrc2
    obtain ⟨j1,j5,j2,j3,j4⟩:=ih _ (zdf ho h0) (by omega) p1' hck2 hrc2
    rw[if_pos i1]
    refine ⟨hrm.trans j1,fun i hi => ?_,j2,j3.trans hro,j4.trans hro⟩
    rcases j5 i hi with h5|⟨b,hb,h5⟩
    · rw[h5];exact hhs i hi
    · rw[(hrm.heap (zas hrc).1).2] at hb
      obtain ⟨b0,hb0,rfl⟩:=List.mem_map.1 hb
      exact .inr ⟨b0,hb0,h5⟩
  · rw[if_neg h32] at g4
    have p2':wd (zag x (zac x).2) 16=2:=by rw[e];exact g4
    rw[zcj (by omega),if_pos rfl]
    rw[e,zhh h32]
    obtain ⟨l1,l2,l3,l4⟩:=zJn hrc 2
    refine ⟨zus hrc 2,zHw fun e he => ?_,l1,l2,l4⟩
    rcases List.mem_cons.1 he with rfl|he
    · exact .inl (by dsimp only;omega)
    · exact .inr (zu6 hrc e he)
theorem zKi {x:List Nat} (hhp:zae x=0):NxL x (zag x (zg1 (za0 x) 3)):=by
 have hw:∀ e ∈ za0 x,∃ b ∈ zab x,e.a=b.at_+1:=by
   intro e he
   rw[zrv hhp] at he
   obtain ⟨b,hb,-,h3⟩:=zfq he
   exact ⟨b,hb,h3⟩
 refine zqg fun e he => ?_
 by_cases h32:32≤(za0 x).length
 · rw[zcd h32] at he
   exact .inr (hw e (List.mem_of_mem_take he))
 · rw[zhh h32] at he
   rcases List.mem_cons.1 he with rfl|he
   · exact .inl (by dsimp only;omega)
   · exact .inr (hw e he)
theorem NxL.mkd {ws xs:List Nat} (h:NxL ws xs) (h0:zae ws=0):zd8 (zab xs)=zd8 (zab ws)∧zal (zab xs) 128=zal (zab ws) 128:=by
 rw[((h.ev h0).heap h0).2]
 exact ⟨mkd_nx _ _,zv4 _ _ _⟩
theorem zIs:∀ n x,(∀ v ∈ x,v<18446744073709551616)→mzS 2 x≤n→wd x 16=2→zao x=0→NxL x (zc7 2 x).2.2∧za0 (zc7 2 x).2.2=[]:=by
 intro n
 induction n with
 | zero=>intro x _ h p2;exfalso;unfold mzS at h;rw[if_pos p2] at h;omega
 | succ n ih =>
  intro x ho h p2 hck
  have hhp:zae x=0:=by
    have:=hck
    unfold zao at this
    rw[if_pos (zjw hck),if_neg (by omega),if_neg (by omega)] at this
    exact this
  have e:zac x=(0,zg1 (za0 x) 3):=by unfold zac;rw[if_pos hck,if_neg (by omega),if_pos p2,if_pos hhp]
  have h0:(zac x).1=0:=by rw[e]
  have hd:=zfj ho p2 h0
  obtain ⟨-,-,k3,-,-,-,-,-⟩:=zlu ho h0
  obtain ⟨r1,r2,r3⟩:=zow hhp
  obtain ⟨g1,g2,g3,g4,g5,g6⟩:=zfe hck p2 (.inr rfl) r1 r2 r3
  simp only[Nat.reduceAdd] at g4 g5
  have hnx:NxL x (zag x (zac x).2):=by rw[e];exact zKi hhp
  rw[zdp ho p2 h0]
  by_cases h32:32≤(za0 x).length
  · rw[if_pos h32] at g4
    have p2':wd (zag x (zac x).2) 16=2:=by rw[e];exact g4
    have hck2:zao (zag x (zac x).2)=0:=zxu k3 (by omega) (by omega) (zuw p2 h0).1
    obtain ⟨i1,-⟩:=zu4 _ _ (zdf ho h0) (Nat.le_refl _) p2' hck2
    obtain ⟨j1,j2⟩:=ih _ (zdf ho h0) (by omega) p2' hck2
    rw[if_pos i1]
    exact ⟨hnx.trans hhp j1,j2⟩
  · rw[if_neg h32] at g4
    have p3':wd (zag x (zac x).2) 16=3:=by rw[e];exact g4
    obtain ⟨f1,-,f3,f4⟩:=zvr hhp h32
    rw[zcj (by omega),if_pos rfl]
    refine ⟨hnx,?_⟩
    rw[e,zrv f3,f4]
    exact zm6
theorem zKv {x:List Nat} (h:zap x=0) (hm:zd8 (zab x)=za3 x):za4 x=[]:=by
 obtain ⟨h1,-,-⟩:=zas h
 rw[zdz h,show zk5 (seenL x) (zab x)=[] from ?_]
 · rfl
 unfold zk5
 rw[List.filter_eq_nil_iff]
 intro b hb
 obtain ⟨a,rfl,a1,a2,a3,a4⟩:=(zb1 h1).1 b hb
 have key:(bkAt x a).mark=zd6 x (bkAt x a):=by
   rw[Bool.eq_iff_iff,zem a3]
   constructor
   · intro hk
     have h5:((a:Nat):Int) ∈ zd8 (zab x):=by
      unfold zd8
      exact List.mem_map.2 ⟨bkAt x a,List.mem_filter.2 ⟨hb,hk⟩,zaa x a⟩
     rw[hm,zd5 h] at h5
     obtain ⟨a',e,-,hr⟩:=h5
     obtain rfl:a=a':=by omega
     exact hr
   · intro hr
     have h5:((a:Nat):Int) ∈ za3 x:=(zd5 h _).2 ⟨a,rfl,a3,hr⟩
     rw[←hm] at h5
     unfold zd8 at h5
     obtain ⟨c,hc,hce⟩:=List.mem_map.1 h5
     obtain ⟨hc1,hc2⟩:=List.mem_filter.1 hc
     have h6:=zp2 (zb1 h1).2 hc1 hb (by rw[hce,zaa])
     rw[←h6];exact hc2
 unfold zd6 at key
 unfold zee
 rw[key]
 simp
end Go.Proofs.YtpcajamacpbjcaaGreat
namespace Go.Proofs.YtpcajamacpbjcaaGreat
open Go.RowKit
theorem zhd {x:List Nat} {l:List En} {a:Int} {v i:Nat} (h:(i:Int)≠a):wd (zag x (⟨a,v⟩ :: l)) i=wd (zag x l) i:=by
 simp only[zag]
 split
 · refine zkq (by rw[List.length_set]) ?_
   unfold wd
   rw[List.getElem?_set_ne (by omega)]
 · rfl
theorem Hd.trans {ws xs ys:List Nat} (h0:zae ws=0) (h:Hd ws xs) (g:Hd xs ys):Hd ws ys:=by
 refine ⟨g.len.trans h.len,fun i h1 h2=>(g.low i h1 h2).trans (h.low i h1 h2),fun b hb => ?_⟩
 obtain ⟨a1,a2⟩:=h.blk b hb
 obtain ⟨b1,b2⟩:=g.blk b (by rw[(h.heap h0).2];exact hb)
 exact ⟨b1.trans a1,b2.trans a2⟩
theorem Hd.rs {ws xs:List Nat} (h:Hd ws xs) (h0:zae ws=0) (a:Int):zb0 xs a=zb0 ws a:=by
 have hx:=h.heap h0
 have hfr:za5 xs 128=za5 ws 128:=by rw[(zfi hx.1).2.1,(zfi h0).2.1,hx.2]
 unfold zb0
 rw[if_pos hx.1,if_pos h0,hfr]
 cases hb:zkm (za5 ws 128) a with
 | none=>rfl
 | some b =>
  obtain ⟨b1,b2,b3⟩:=zh7 hb
  rw[(zfi h0).2.1] at b1
  obtain ⟨t1,t2⟩:=h.ty h0 b1 b3
  dsimp only
  unfold zfr zxs
  rw[t1,t2]
def Mk (ws:List Nat) (m:Nat):Prop:=bkAt ws m ∈ zab ws∧(bkAt ws m).mark=true
theorem zo5 {ws:List Nat} (h0:zae ws=0) {m:Nat} (h:Mk ws m):zep ws m∧(bkAt ws m).kind=1:=by
 have hk:(bkAt ws m).kind=1:=zh3 (zfi h0).2.2.2 (by omega) _ h.1 h.2
 obtain ⟨k,hk2,e⟩:=List.getElem_of_mem h.1
 obtain ⟨a,e1,e2⟩:=ziy h0 hk2 (by rw[e];exact hk)
 rw[e] at e1
 have h3:=congrArg Bk.at_ e1
 rw[zaa,zaa] at h3
 obtain rfl:m=a:=by omega
 exact ⟨e2,hk⟩
theorem Hd.mks {ws xs:List Nat} (h:Hd ws xs) (h0:zae ws=0) {m:Nat}:Mk xs m↔Mk ws m:=by
 constructor
 · rintro ⟨h1,h2⟩
   obtain ⟨k1,k2⟩:=zAv h h0 h1
   exact ⟨k1,by rw[←k2];exact h2⟩
 · rintro ⟨h1,h2⟩
   obtain ⟨b1,b2⟩:=h.blk _ h1
   rw[zaa,Int.toNat_natCast] at b1 b2
   have e:bkAt xs m=bkAt ws m:=by unfold bkAt;rw[b1,b2]
   exact ⟨by rw[(h.heap h0).2,e];exact h1,by rw[e];exact h2⟩
theorem zId {ws:List Nat} (h0:zae ws=0) {c k0:Nat} (hk:k0≤(zab ws).length) (hb:blocks ws c=some ((zab ws).drop k0)) {j:Nat} (hj:j<(zab ws).length) (hc:(c:Int)≤(zab ws)[j].at_):k0≤j:=by
 rcases Nat.lt_or_ge j k0 with hlt|hge
 · exfalso
   obtain ⟨a,ea,a1,a2,a3,a4⟩:=(zb1 h0).1 _ (List.getElem_mem hj)
   rw[ea,zaa] at hc
   have hcl:c<ws.length:=by omega
   obtain ⟨f1,f2,-⟩:=zcc hb hcl
   rw[List.length_drop] at f1
   have hk2:k0<(zab ws).length:=by omega
   have e:(zab ws)[k0]=bkAt ws c:=by
    rw[←f2]
    unfold gk
    rw[List.getElem?_drop,List.getElem?_eq_getElem (by omega),Option.getD_some]
    rfl
   have hp:=(zb1 h0).2
   rw[List.pairwise_iff_getElem] at hp
   have:=hp j k0 hj hk2 hlt
   rw[e,ea,zaa,zaa] at this
   omega
 · exact hge
theorem zJa {ws:List Nat} (h0:zae ws=0) {c:Nat} (hb:Bd ws c) (hc:c≤ws.length):c % 2=0:=by
 obtain ⟨-,k0,hk0,h2⟩:=hb
 have hs:=(zad _).1 (zam h0).1
 by_cases he:c=ws.length
 · omega
 · obtain ⟨f1,f2,-⟩:=zcc h2 (by omega)
   rw[List.length_drop] at f1
   obtain ⟨a,ea,a1,a2,-⟩:=(zb1 h0).1 _ (List.getElem_mem (show k0<(zab ws).length by omega))
   have e:(zab ws)[k0]'(by omega)=bkAt ws c:=by
    rw[←f2]
    unfold gk
    rw[List.getElem?_drop,List.getElem?_eq_getElem (by omega),Option.getD_some]
    rfl
   rw[e] at ea
   have h3:=congrArg Bk.at_ ea
   rw[zaa,zaa] at h3
   omega
theorem bd_gap {ws:List Nat} (h0:zae ws=0) {c m:Nat} (hb:Bd ws c) (hn:zbj ws (c:Int)=0) (e:zhm ws (c:Int)=bkAt ws m) {m':Nat} (hm:Mk ws m') (hc:c≤m'):m≤m':=by
 obtain ⟨k1,k2⟩:=hm
 obtain ⟨h1,k0,hk0,hb2⟩:=hb
 obtain ⟨-,-,-,m2,e2,p1,-,p3,-,p5,-,-,-,l,q1,-,-,k,q2,q3,q4⟩:=zfc hn
 have em:m2=m:=by
   have:=e2.symm.trans e
   have h3:=congrArg Bk.at_ this
   rw[zaa,zaa] at h3
   omega
 subst em
 rw[q1] at hb2
 obtain rfl:=Option.some.inj hb2
 obtain ⟨j,hj,ej⟩:=List.getElem_of_mem k1
 have hj0:=zId h0 hk0 q1 hj (by rw[ej,zaa];omega)
 rw[List.length_drop] at q2
 rcases Nat.lt_or_ge (j - k0) k with hlt|hge
 · exfalso
   have:=q3 (j - k0) hlt
   unfold gk at this
   rw[List.getElem?_drop,show k0+(j - k0)=j by omega,List.getElem?_eq_getElem hj,Option.getD_some,ej,k2] at this
   cases this
 · obtain ⟨f1,f2,-⟩:=zcc q4 (by omega)
   unfold gk at f2
   rw[List.drop_drop,List.getElem?_drop,Nat.add_zero,List.getElem?_eq_getElem (by omega),Option.getD_some] at f2
   have hp:=(zb1 h0).2
   rw[List.pairwise_iff_getElem] at hp
   by_cases hq:j=k0+k
   · subst hq
     rw[f2] at ej
     have h3:=congrArg Bk.at_ ej
     rw[zaa,zaa] at h3
     omega
   · have:=hp (k0+k) j (by omega) hj (by omega)
     rw[f2,ej,zaa,zaa] at this
     omega
theorem zz1 {ws:List Nat} (h0:zae ws=0) {c:Nat} (hb:Bd ws c) (hcl:c≤ws.length) (hn:zbj ws (c:Int)≠0) {m':Nat} (hm:Mk ws m'):¬ c≤m':=by
 intro hc
 have he:=zJa h0 hb hcl
 obtain ⟨k1,k2⟩:=hm
 obtain ⟨h1,k0,hk0,hb2⟩:=hb
 obtain ⟨j,hj,ej⟩:=List.getElem_of_mem k1
 have hj0:=zId h0 hk0 hb2 hj (by rw[ej,zaa];omega)
 have hmem:bkAt ws m' ∈ (zab ws).drop k0:=by
  rw[←ej]
  refine List.mem_iff_getElem.2 ⟨j - k0,by rw[List.length_drop];omega,?_⟩
  rw[List.getElem_drop]
  congr 1
  omega
 have hpos:0<(zd8 ((zab ws).drop k0)).length:=by
  have:((m':Nat):Int) ∈ zd8 ((zab ws).drop k0):=by
   unfold zd8
   exact List.mem_map.2 ⟨bkAt ws m',List.mem_filter.2 ⟨hmem,k2⟩,zaa ws m'⟩
  exact List.length_pos_of_mem this
 obtain ⟨m,z,l',g1,-⟩:=zm0 (zam h0).1 h1 hcl he hb2 hpos
 exact hn g1
theorem zg2 {ws:List Nat} (h0:zae ws=0) {m m':Nat} (h:Mk ws m) (h':Mk ws m') (hlt:m<m'):m+szAt ws m≤m':=by
 have:=zgm h0 (zo5 h0 h).1 h'.1
 rw[zaa] at this
 omega
theorem zvv {ws:List Nat} (h0:zae ws=0) {m m':Nat} (h:Mk ws m) (h':Mk ws m') {r:Int} (hr:r ∈ zb0 ws (m:Int)) (hr':r ∈ zb0 ws (m':Int)):m=m':=by
 obtain ⟨i,e1,-,e2,-⟩:=zgl h0 hr
 obtain ⟨i',f1,-,f2,-⟩:=zgl h0 hr'
 rcases Nat.lt_trichotomy m m' with h1|h1|h1
 · have:=zg2 h0 h h' h1;omega
 · exact h1
 · have:=zg2 h0 h' h h1;omega
theorem zEs {ws:List Nat} (h0:zae ws=0):∀ k a,ws.length - a≤k→a≤ws.length→Bd ws a→zD5 ws a→(zkn ws a=(0,zb3)∧∀ m:Nat,Mk ws m→a≤m→zb0 ws (m:Int)=[])∨∃ m:Nat,a≤m∧m+szAt ws m≤ws.length∧2≤szAt ws m∧Mk ws m∧zkn ws a=(0,⟨17,m+szAt ws m⟩ :: zct ws (m:Int))∧∀ m':Nat,Mk ws m'→a≤m'→m' < m→zb0 ws (m':Int)=[]:=by
 intro k
 induction k with
 | zero =>
  intro a hk hal hb hf
  by_cases hn:zbj ws (a:Int)=0
  · obtain ⟨-,-,-,m,e,-⟩:=zfc hn
    obtain ⟨n1,n2,n3,-⟩:=zpt hb hn e
    omega
  · exact .inl ⟨zi2 hn,fun m hm ha=>absurd ha (zz1 h0 hb hal hn hm)⟩
 | succ k ih =>
  intro a hk hal hb hf
  by_cases hn:zbj ws (a:Int)=0
  · obtain ⟨-,-,-,m,e,-⟩:=zfc hn
    obtain ⟨n1,n2,n3,n4,n5,n6,n7⟩:=zpt hb hn e
    have hgap:=fun m' (hm':Mk ws m') (ha:a≤m')=>bd_gap h0 hb hn e hm' ha
    have hMm:Mk ws m:=⟨n5,n6⟩
    by_cases hr:zb0 ws (m:Int)=[]
    · rw[zkk hn e hr]
      rcases ih (m+szAt ws m) (by omega) n3 n4 (fun m' h1 h2 h3=>hf m' h1 h2 (by omega)) with ⟨i1,i2⟩|⟨m',j1,j2,j3,j4,j5,j6⟩
      · refine .inl ⟨i1,fun m' hm' ha => ?_⟩
        rcases Nat.lt_or_ge m m' with h1|h1
        · exact i2 m' hm' (zg2 h0 hMm hm' h1)
        · have:=hgap m' hm' ha
          obtain rfl:m=m':=by omega
          exact hr
      · refine .inr ⟨m',by omega,j2,j3,j4,j5,fun m2 hm2 ha h2 => ?_⟩
        rcases Nat.lt_or_ge m m2 with h1|h1
        · exact j6 m2 hm2 (zg2 h0 hMm hm2 h1) h2
        · have:=hgap m2 hm2 ha
          obtain rfl:m=m2:=by omega
          exact hr
    · have ho:=hf m n5 n6 n1
      refine .inr ⟨m,n1,n3,n2,hMm,zps hn e hr ho,fun m' hm' ha h2 => ?_⟩
      have:=hgap m' hm' ha
      omega
  · exact .inl ⟨zi2 hn,fun m hm ha=>absurd ha (zz1 h0 hb hal hn hm)⟩
theorem zml {x:List Nat} {m f j:Nat} (hob:zdw x (m:Int)=0) (h17:j≠17) (hj:∀ r ∈ zb0 x (m:Int),r≠(j:Int)):wd (zag x (⟨17,f⟩ :: zct x (m:Int))) j=wd x j:=by
 obtain ⟨g,-,-,-,-,q5,q6,q7,q10,q9⟩:=zhb hob
 refine za9 _ _ _ fun e he h5 => ?_
 rcases List.mem_cons.1 he with rfl|he
 · dsimp only at h5;omega
 · obtain ⟨r,r1,r2,r3,r4⟩:=q10 e he
   obtain rfl:r=j:=by omega
   have h6:=q7 r (fun i hi hf=>hj _ (List.getElem_mem hi) (by rw[(q6 i hi).1,hf]))
   have hit:=zdu _ x q9 e he (by omega) (by omega)
   rw[r1,Int.toNat_natCast,h6] at hit
   exact r3 hit
theorem ob_hd {x:List Nat} (hp:zae x=0) {m f:Nat} (hob:zdw x (m:Int)=0):Hd x (zag x (⟨17,f⟩ :: zct x (m:Int))):=by
 refine ⟨zau _ _,fun i h1 h2=>zml hob (by omega) fun r hr hri => ?_,fun b hb => ?_⟩
 · obtain ⟨i',e1,-,-,i3⟩:=zgl hp hr
   have:=i3.1
   omega
 · obtain ⟨a,rfl,a1,a2,-⟩:=(zb1 hp).1 b hb
   have hat:(bkAt x a).at_=(a:Int):=zaa x a
   rw[hat,Int.toNat_natCast]
   refine ⟨zml hob (by omega) fun r hr hri => ?_,zml hob (by omega) fun r hr hri => ?_⟩
   · obtain ⟨i',e1,i1,i2,i3⟩:=zgl hp hr
     have:=zgm hp i3 hb
     rw[hat] at this
     omega
   · obtain ⟨i',e1,i1,i2,i3⟩:=zgl hp hr
     have:=zgm hp i3 hb
     rw[hat] at this
     omega
structure FxT (ws xs:List Nat) (c:Nat):Prop where
 hd:Hd ws xs
 sl:∀ i,i<16→slAt xs i=nwS ws (zhn ws 128 128) i
 done:∀ m:Nat,Mk ws m→m<c→∀ r ∈ zb0 ws (m:Int),zEg ws xs (zhn ws 128 128) r.toNat
 todo:∀ m:Nat,Mk ws m→c≤m→∀ r ∈ zb0 ws (m:Int),wd xs r.toNat=wd ws r.toNat
 off:∀ i:Nat,128≤i→(∀ m:Nat,Mk ws m→(i:Int) ∉ zb0 ws (m:Int))→wd xs i=wd ws i
theorem zze {x:List Nat} (hfs:zey x=0):FxT x (zag x (⟨17,128⟩ :: zec x)) 128:=by
 obtain ⟨-,hp,-,-,-,-,-,q1,q2,q3,q4,-⟩:=zip hfs
 have hlow:∀ e ∈ (⟨17,128⟩ :: zec x:List En),e.a<19∨112≤e.a∧e.a<128:=fun e he=>by
   rcases List.mem_cons.1 he with rfl|he
   · exact .inl (by dsimp only;omega)
   · exact .inr (q1 e he).1
 have hup:∀ i:Nat,128≤i→wd (zag x (⟨17,128⟩ :: zec x)) i=wd x i:=fun i hi=>za9 _ _ _ fun e he h=>by
   rcases hlow e he with h1|h1 <;> omega
 refine ⟨zve hp hlow,fun i hi => ?_,fun m hm h1 => ?_,fun m hm h1 r hr => ?_,fun i hi _=>hup i hi⟩
 · rw[←q4 i hi]
   unfold slAt
   rw[zhd (by omega)]
 · have:=(zo5 hp hm).1.1
   omega
 · obtain ⟨i,rfl,-,-,i3⟩:=zgl hp hr
   rw[Int.toNat_natCast]
   exact hup _ (by have:=i3.1;omega)
theorem zE6 {ws x:List Nat} {c m:Nat} (h0:zae ws=0) (hr0:zbi ws 128 128=0) (hx:FxT ws x c) (hm:Mk x m) (hcm:c≤m) (hob:zdw x (m:Int)=0) (hno:∀ m':Nat,Mk x m'→c≤m'→m' < m→zb0 x (m':Int)=[]):FxT ws (zag x (⟨17,m+szAt x m⟩ :: zct x (m:Int))) (m+szAt x m):=by
 have hp:=(hx.hd.heap h0).1
 have hmw:Mk ws m:=(hx.hd.mks h0).1 hm
 have hrs:=hx.hd.rs h0
 obtain ⟨hrx,hmv⟩:=hx.hd.rd h0 hr0
 have hsz:=zav (zo5 hp hm).1.2.2.2.1
 refine ⟨hx.hd.trans h0 (ob_hd hp hob),fun i hi => ?_,fun m' hm' hlt r hr => ?_,fun m' hm' hle r hr => ?_,fun i hi hno2 => ?_⟩
 · rw[←hx.sl i hi]
   unfold slAt
   rw[zml hob (by omega) fun r hr hri => ?_]
   obtain ⟨i',e1,-,-,i3⟩:=zgl hp hr
   have:=i3.1
   omega
 · have hr2:r ∈ zb0 x (m':Int):=by rw[hrs];exact hr
   have hmx':Mk x m':=(hx.hd.mks h0).2 hm'
   rcases Nat.lt_trichotomy m' m with h1|h1|h1
   · rcases Nat.lt_or_ge m' c with h2|h2
     · have hold:=hx.done m' hm' h2 r hr
       obtain ⟨i,rfl,-,-,i3⟩:=zgl h0 hr
       rw[Int.toNat_natCast] at hold ⊢
       have e:wd (zag x (⟨17,m+szAt x m⟩ :: zct x (m:Int))) (m'+2+i)=wd x (m'+2+i):=zml hob (by have:=i3.1;omega) fun r hr3 hri=>by
        subst hri
        have:=zvv hp hm hmx' hr3 hr2
        omega
       unfold zEg at hold ⊢
       rw[e]
       exact hold
     · rw[hno m' hmx' h2 h1] at hr2
       cases hr2
   · subst h1
     have hsame:=hx.todo m' hm' hcm r hr
     obtain ⟨g,-,-,-,-,q5,q6,-⟩:=zhb hob
     obtain ⟨j,hj,ej⟩:=List.getElem_of_mem hr2
     obtain ⟨e1,-,-,e4⟩:=q6 j hj
     obtain ⟨i,rfl,-,-,i3⟩:=zgl h0 hr
     rw[e1] at ej
     have ej:g j=m'+2+i:=by omega
     rw[ej,hmv] at e4
     rw[Int.toNat_natCast] at hsame ⊢
     have e:wd (zag x (⟨17,m'+szAt x m'⟩ :: zct x (m':Int))) (m'+2+i)=wd (zag x (zct x (m':Int))) (m'+2+i):=zhd (by have:=i3.1;omega)
     unfold zEg at e4 ⊢
     rw[e,←hsame]
     rw[hx.hd.len] at e4
     exact e4
   · have:=zg2 hp hm hmx' h1
     omega
 · have hmx':Mk x m':=(hx.hd.mks h0).2 hm'
   have hr2:r ∈ zb0 x (m':Int):=by rw[hrs];exact hr
   have hold:=hx.todo m' hm' (by omega) r hr
   obtain ⟨i,rfl,-,-,i3⟩:=zgl h0 hr
   rw[Int.toNat_natCast] at hold ⊢
   rw[zml hob (by have:=i3.1;omega) fun r hr3 hri => ?_]
   · exact hold
   · subst hri
     have:=zvv hp hm hmx' hr3 hr2
     omega
 · rw[zml hob (by omega) fun r hr hri => ?_]
   · exact hx.off i hi hno2
   · subst hri
     rw[hrs] at hr
     exact hno2 m hmw hr
theorem zJm {ws x:List Nat} {c:Nat} (h0:zae ws=0) (hx:FxT ws x c) (hno:∀ m:Nat,Mk x m→c≤m→zb0 x (m:Int)=[]):FxT ws (zag x zb3) ws.length:=by
 have hp:=(hx.hd.heap h0).1
 have hrs:=hx.hd.rs h0
 have hup:∀ i:Nat,19≤i→wd (zag x zb3) i=wd x i:=fun i hi=>za9 _ _ _ fun e he h=>by
   simp only[zb3,List.mem_cons,List.not_mem_nil,or_false] at he
   rcases he with rfl|rfl|rfl <;> (dsimp only at h;omega)
 have hd:Hd x (zag x zb3):=zve hp fun e he=>by
   simp only[zb3,List.mem_cons,List.not_mem_nil,or_false] at he
   rcases he with rfl|rfl|rfl <;> exact .inl (by dsimp only;omega)
 refine ⟨hx.hd.trans h0 hd,fun i hi => ?_,fun m hm hlt r hr => ?_,fun m hm hle => ?_,fun i hi hno2=>(hup i (by omega)).trans (hx.off i hi hno2)⟩
 · rw[←hx.sl i hi]
   unfold slAt
   rw[hup _ (by omega)]
 · rcases Nat.lt_or_ge m c with h1|h1
   · have hold:=hx.done m hm h1 r hr
     obtain ⟨i,rfl,-,-,i3⟩:=zgl h0 hr
     rw[Int.toNat_natCast] at hold ⊢
     unfold zEg at hold ⊢
     rw[hup _ (by have:=i3.1;omega)]
     exact hold
   · have:=hno m ((hx.hd.mks h0).2 hm) h1
     rw[hrs] at this
     rw[this] at hr
     cases hr
 · have:=(zo5 h0 hm).1.2.2.1
   omega
theorem zFy {ws:List Nat} (h0:zae ws=0) (hr0:zbi ws 128 128=0):∀ n x,(∀ v ∈ x,v<18446744073709551616)→mzS 3 x≤n→I3 x→wd x 17≠0→FxT ws x (wd x 17)→FxT ws (zc7 3 x).2.2 ws.length:=by
 intro n
 induction n with
 | zero=>intro x _ h h3;exfalso;have:=h3.p3;unfold mzS at h;rw[if_pos this] at h;omega
 | succ n ih =>
  intro x ho h h3 z hx
  obtain ⟨hz,hst⟩:=zo9 ho h3
  have hd:=zfj ho h3.p3 hz
  have p3:=h3.p3
  have e:zac x=zkn x (wd x 17):=by
    unfold zac
    rw[if_pos h3.ck,if_neg (by omega),if_neg (by omega),if_pos p3]
    unfold zdg
    rw[if_neg z]
  obtain ⟨-,hs,hl,hph⟩:=zck h3.ck
  have hb:=(zad _).1 hs
  obtain ⟨⟨l1,l2,l3⟩,-⟩:=(zbn x).1 hl
  have hbd:Bd x (wd x 17):=by
    refine bd_of h3.hp ?_
    have hln:=zjw h3.ck
    unfold zcx at hln
    by_cases hb1:zo1 x (wd x 17)=true
    · exact hb1
    · split at hln
      · rw[if_pos ⟨p3,z,by simpa using hb1⟩] at hln;cases hln
      · exact absurd hln (by assumption)
  rw[zdp ho p3 hz]
  rcases zEs h3.hp _ (wd x 17) (Nat.le_refl _) l2 hbd h3.fx with ⟨f1,f2⟩|⟨m,m1,m2,m3,m4,m5,m6⟩
  · rw[f1] at e
    have h16:wd (zag x (zac x).2) 16=4:=by rw[e];exact (zgd h3.ck p3).2.2.2.1
    rw[zcj (by omega),if_pos rfl,e]
    exact zJm h0 hx f2
  · rw[m5] at e
    have hob:zdw x (m:Int)=0:=h3.fx m m4.1 m4.2 m1
    have q8:=zF5 hob
    have hm128:=(zo5 h3.hp m4).1.1
    have e17:wd (zag x (zac x).2) 17=m+szAt x m:=by
      rw[e]
      exact zje (j:=17) (by omega) fun e he=>by have:=(q8 e he).1;omega
    have h16:wd (zag x (zac x).2) 16=3:=by
      rw[e,zhd (by omega),za9 _ _ _ fun e he=>by have:=(q8 e he).1;omega]
      exact p3
    have hI:I3 (zag x (zac x).2):=by
      rcases hst with hst|⟨g1,-⟩
      · exact hst
      · omega
    have hI1:=(zpl _ _ (zdf ho hz) (Nat.le_refl _) hI).1
    rw[if_pos hI1]
    refine ih _ (zdf ho hz) (by omega) hI (by omega) ?_
    rw[e17,e]
    exact zE6 h0 hr0 hx m4 m1 hob m6
theorem zKl {x:List Nat} (ho:∀ v ∈ x,v<18446744073709551616) (h3:I3 x) (z:wd x 17=0):FxT x (zc7 3 x).2.2 x.length:=by
 obtain ⟨hz,hst⟩:=zo9 ho h3
 have p3:=h3.p3
 have hfs:=h3.sl z
 have hrd:=h3.rd
 have e:zac x=(0,⟨17,128⟩ :: zec x):=by
  unfold zac
  rw[if_pos h3.ck,if_neg (by omega),if_neg (by omega),if_pos p3]
  unfold zdg
  rw[if_pos z,if_pos hfs]
 obtain ⟨h256,-,-,-,-,-,-,q1,-⟩:=zip hfs
 have e17:wd (zag x (zac x).2) 17=128:=by
  rw[e]
  exact zje (j:=17) (by omega) fun e he=>by have:=(q1 e he).1;omega
 have h16:wd (zag x (zac x).2) 16=3:=by
  rw[e,zhd (by omega),za9 _ _ _ fun e he=>by have:=(q1 e he).1;omega]
  exact p3
 have hI:I3 (zag x (zac x).2):=by
  rcases hst with hst|⟨g1,-⟩
  · exact hst
  · omega
 have hI1:=(zpl _ _ (zdf ho hz) (Nat.le_refl _) hI).1
 rw[zdp ho p3 hz,if_pos hI1]
 refine zFy h3.hp hrd _ _ (zdf ho hz) (Nat.le_refl _) hI (by omega) ?_
 rw[e17,e]
 exact zze hfs
end Go.Proofs.YtpcajamacpbjcaaGreat
namespace Go.Proofs.YtpcajamacpbjcaaGreat
open Go.RowKit
def MvW (ws xs:List Nat) (m t:Nat):Prop:=wd xs t=zcg { zaf (wd ws m) with mark:=false }∧wd xs (t+1)=0∧∀ j,2≤j→j<szAt ws m→wd xs (t+j)=wd ws (m+j)
structure SlT (ws xs:List Nat) (k F T:Nat):Prop where
 len:xs.length=ws.length
 low:∀ i,19≤i→i<128→wd xs i=wd ws i
 up:∀ i,T≤i→128≤i→wd xs i=wd ws i
 kle:k≤(zab ws).length
 bl:blocks ws F=some ((zab ws).drop k)
 to:zat ((zab ws).take k) 128=(T:Int)
 mv:∀ p ∈ zal ((zab ws).take k) 128,∃ m t:Nat,p=((m:Int),(t:Int))∧MvW ws xs m t∧128≤t∧t+szAt ws m≤T∧2≤szAt ws m
theorem unlive {b:Bk} (h:b.mark=false):zax b=false:=by unfold zax;rw[h];simp
theorem zv5:∀ {l:List Bk} {s:Int},zeq l l.length→zat l s=s∧zal l s=[]:=by
 intro l
 induction l with
 | nil=>intro s _;exact ⟨rfl,rfl⟩
 | cons b l ih =>
  intro s h
  have h0:b.mark=false:=h 0 (by simp)
  obtain ⟨i1,i2⟩:=ih (s:=s) fun j hj=>by have:=h (j+1) (by simpa using hj);rwa [zhk] at this
  simp only[zat,zal,unlive h0]
  exact ⟨i1,i2⟩
theorem zuk {l:List Bk} {k:Nat} (hk:k≤l.length) (h:zeq l k):zeq (l.take k) (l.take k).length:=by
 intro j hj
 rw[List.length_take] at hj
 have:=h j (by omega)
 unfold gk at this ⊢
 rw[List.getElem?_take,if_pos (by omega)]
 exact this
theorem zGd {x:List Nat} (hck:zao x=0) (p4:wd x 16=4) (hnx:zbj x ((wd x 17:Nat):Int)=0) (h0:(zac x).1=0) {m:Nat} (em:zhm x ((wd x 17:Nat):Int)=bkAt x m):zac x=(0,⟨17,m+szAt x m⟩ :: ⟨18,wd x 18+szAt x m⟩ :: zix x m (wd x 18))∧zex x (m:Int) ((wd x 18:Nat):Int)=0:=by
 have e:zac x=zes x:=by unfold zac;rw[if_pos hck,if_neg (by omega),if_neg (by omega),if_neg (by omega),if_pos p4]
 rw[e] at h0 ⊢
 have hmv:zex x (m:Int) ((wd x 18:Nat):Int)=0:=by
  by_cases h1:zex x (m:Int) ((wd x 18:Nat):Int)=0
  · exact h1
  · unfold zes at h0;rw[if_pos hnx,em,zaa,if_neg h1] at h0;exact absurd h0 h1
 refine ⟨?_,hmv⟩
 unfold zes
 rw[if_pos hnx,em,zaa,if_pos hmv,zba,show ((m:Int)+((szAt x m:Nat):Int)).toNat=m+szAt x m by omega,show (((wd x 18:Nat):Int)+((szAt x m:Nat):Int)).toNat=wd x 18+szAt x m by omega]
 unfold zi3
 rw[if_pos hmv,Int.toNat_natCast,Int.toNat_natCast]
theorem zGl {x:List Nat} {a f u i:Nat} (hin:u+szAt x a≤x.length) (h19:19≤i):wd (zag x (⟨17,f⟩ :: ⟨18,u+szAt x a⟩ :: zix x a u)) i=if u≤i∧i<u+szAt x a then (if i=u then zcg { zaf (wd x a) with mark:=false } else if i=u+1 then 0 else wd x (a+(i - u))) else wd x i:=by
 rw[zhd (by omega),zhd (by omega),zz8 hin,zq0 _ _ _ _ (by rw[zfu];exact hin),zfu]
 by_cases h:u≤i∧i<u+szAt x a
 · rw[if_pos h,if_pos h,ziz _ _ _ (by omega),Option.getD_some]
   by_cases h1:i=u
   · rw[if_pos (by omega),if_pos h1]
   · rw[if_neg (by omega),if_neg h1]
     by_cases h2:i=u+1
     · rw[if_pos (by omega),if_pos h2]
     · rw[if_neg (by omega),if_neg h2]
 · rw[if_neg h,if_neg h]
theorem zGi {ws x:List Nat} {k F T m:Nat} (hx:SlT ws x k F T) (h128:128≤T) (hTF:T≤F) (hn:zbj x (F:Int)=0) (e:zhm x (F:Int)=bkAt x m):∃ k',SlT ws (zag x (⟨17,m+szAt x m⟩ :: ⟨18,T+szAt x m⟩ :: zix x m T)) k' (m+szAt x m) (T+szAt x m)∧F≤m∧zal ((zab ws).take k') 128=zal ((zab ws).take k) 128++[((m:Int),(T:Int))]:=by
 obtain ⟨-,-,-,m2,e2,p1,p2,p3,p4,p5,p6,p7,p8,l,q1,-,-,k2,q2,q3,q4⟩:=zfc hn
 have em:m2=m:=by
   have:=e2.symm.trans e
   have h3:=congrArg Bk.at_ this
   rw[zaa,zaa] at h3
   omega
 subst em
 have hag:∀ i,F≤i→wd x i=wd ws i:=fun i hi=>hx.up i (by omega) (by omega)
 have hbl:blocks ws F=blocks x F:=(zek hx.len F fun j hj=>hag j hj).symm
 rw[hx.bl,q1] at hbl
 obtain rfl:=Option.some.inj hbl
 rw[List.length_drop] at q2
 have hkm:k+k2<(zab ws).length:=by omega
 have q4w:blocks ws m2=some (((zab ws).drop k).drop k2):=by
   rw[←q4]
   exact (zek hx.len m2 fun j hj=>hag j (by omega)).symm
 have hsz:szAt x m2=szAt ws m2:=by unfold szAt;rw[hag m2 p1]
 have hbk:bkAt x m2=bkAt ws m2:=by unfold bkAt;rw[hag m2 p1,hag (m2+1) (by omega)]
 obtain ⟨f1,f2,f3,f4⟩:=zcc q4w (by rw[←hx.len];omega)
 rw[List.drop_drop,List.drop_drop] at f4
 have hget:(zab ws)[k+k2]=bkAt ws m2:=by
   rw[←f2]
   unfold gk
   rw[List.drop_drop,List.getElem?_drop,Nat.add_zero,List.getElem?_eq_getElem hkm,Option.getD_some]
 have htk:(zab ws).take (k+k2+1)=(zab ws).take k++(((zab ws).drop k).take k2++[bkAt ws m2]):=by
   rw[List.take_succ_eq_append_getElem hkm,hget,List.take_add,List.append_assoc]
 have hno:=zuk (l:=(zab ws).drop k) (k:=k2) (by rw[List.length_drop];omega) q3
 obtain ⟨n1,n2⟩:=zv5 (s:=(T:Int)) hno
 have hlv:zax (bkAt ws m2)=true:=by
   rw[hbk] at p7 p8
   unfold zax
   rw[p7,p8];rfl
 have hend:zat ((zab ws).take (k+k2+1)) 128=((T+szAt x m2:Nat):Int):=by
   rw[htk,zge,zge,hx.to,n1]
   simp only[zat,hlv,if_true]
   rw[zba,hsz]
   omega
 have hmvs:zal ((zab ws).take (k+k2+1)) 128=zal ((zab ws).take k) 128++[((m2:Int),(T:Int))]:=by
   rw[htk,zfb,zfb,hx.to,n1,n2]
   simp only[zal,hlv,if_true,List.nil_append]
   rw[zaa]
 have hin:T+szAt x m2≤x.length:=by omega
 have hw:=fun i (hi:19≤i)=>zGl (x:=x) (a:=m2) (f:=m2+szAt x m2) (u:=T) (i:=i) hin hi
 refine ⟨k+k2+1,⟨?_,fun i h1 h2 => ?_,fun i h1 h2 => ?_,by omega,?_,hend,fun p hp => ?_⟩,p1,hmvs⟩
 · rw[zau];exact hx.len
 · rw[hw i h1,if_neg (by omega)];exact hx.low i h1 h2
 · rw[hw i (by omega),if_neg (by omega)];exact hx.up i (by omega) h2
 · rw[hsz,f4,Nat.add_assoc]
 · rw[hmvs] at hp
   rcases List.mem_append.1 hp with hp|hp
   · obtain ⟨a,t,rfl,⟨w1,w2,w3⟩,t1,t2,t3⟩:=hx.mv p hp
     refine ⟨a,t,rfl,⟨?_,?_,fun j j1 j2 => ?_⟩,t1,by omega,t3⟩
     · rw[hw _ (by omega),if_neg (by omega)];exact w1
     · rw[hw _ (by omega),if_neg (by omega)];exact w2
     · rw[hw _ (by omega),if_neg (by omega)];exact w3 j j1 j2
   · rw[List.mem_singleton] at hp
     subst hp
     refine ⟨m2,T,rfl,⟨?_,?_,fun j j1 j2 => ?_⟩,h128,by omega,by omega⟩
     · rw[hw _ (by omega),if_pos (by omega),if_pos rfl,hag m2 p1]
     · rw[hw _ (by omega),if_pos (by omega),if_neg (by omega),if_pos rfl]
     · rw[hw _ (by omega),if_pos (by omega),if_neg (by omega),if_neg (by omega),show T+j - T=j by omega]
       exact hag _ (by omega)
structure SlE (ws xs:List Nat) (T:Nat):Prop where
 len:xs.length=ws.length
 low:∀ i,19≤i→i<128→wd xs i=wd ws i
 up:∀ i,T≤i→128≤i→wd xs i=wd ws i
 to:zat (zab ws) 128=(T:Int)
 mv:∀ p ∈ zal (zab ws) 128,∃ m t:Nat,p=((m:Int),(t:Int))∧MvW ws xs m t∧128≤t∧t+szAt ws m≤T∧2≤szAt ws m
theorem zLg {ws x:List Nat} {k F T:Nat} (h0:zae ws=0) (hx:SlT ws x k F T) (h128:128≤T) (hTF:T≤F) (hFl:F≤ws.length) (hF2:F % 2=0) (hn:zbj x (F:Int)≠0):SlE ws x T:=by
 have hag:∀ i,F≤i→wd x i=wd ws i:=fun i hi=>hx.up i (by omega) (by omega)
 have hbl:blocks x F=some ((zab ws).drop k):=by
   rw[zek hx.len F fun j hj=>hag j hj]
   exact hx.bl
 have hz:(zd8 ((zab ws).drop k)).length=0:=by
   rcases Nat.eq_zero_or_pos (zd8 ((zab ws).drop k)).length with h1|h1
   · exact h1
   · obtain ⟨m,z,l',g1,-⟩:=zm0 (by rw[hx.len];exact (zam h0).1) (by omega) (by rw[hx.len];exact hFl) hF2 hbl h1
     exact absurd g1 hn
 have hno:zeq ((zab ws).drop k) ((zab ws).drop k).length:=by
   intro j hj
   unfold gk
   rw[List.getElem?_eq_getElem hj,Option.getD_some]
   cases hm:(((zab ws).drop k)[j]).mark with
   | false=>rfl
   | true =>
     have:(((zab ws).drop k)[j]).at_ ∈ zd8 ((zab ws).drop k):=by
      unfold zd8
      exact List.mem_map.2 ⟨_,List.mem_filter.2 ⟨List.getElem_mem hj,hm⟩,rfl⟩
     have:=List.length_pos_of_mem this
     omega
 obtain ⟨n1,n2⟩:=zv5 (s:=(T:Int)) hno
 refine ⟨hx.len,hx.low,hx.up,?_,fun p hp=>hx.mv p ?_⟩
 · conv=>lhs;rw[←List.take_append_drop k (zab ws)]
   rw[zge,hx.to,n1]
 · rw[←List.take_append_drop k (zab ws),zfb,hx.to,n2,List.append_nil] at hp
   exact hp
theorem zJy {ws:List Nat} (h0:zae ws=0):∀ n x k,(∀ v ∈ x,v<18446744073709551616)→mzS 4 x≤n→zao x=0→wd x 16=4→SlT ws x k (wd x 17) (wd x 18)→(zc7 4 x).1=0∧wd (zc7 4 x).2.2 16=4∧zao (zc7 4 x).2.2=0∧zbj (zc7 4 x).2.2 ((wd (zc7 4 x).2.2 17:Nat):Int)≠0∧SlE ws (zc7 4 x).2.2 (wd (zc7 4 x).2.2 18):=by
 intro n
 induction n with
 | zero=>intro x k _ h _ p4;exfalso;unfold mzS at h;rw[if_pos p4] at h;omega
 | succ n ih =>
  intro x k ho h hck p4 hx
  obtain ⟨-,hs,hl,hph⟩:=zck hck
  obtain ⟨⟨l1,l2,l3⟩,-⟩:=(zbn x).1 hl
  have hpp:zkp (wd x 17)=true∧zkp (wd x 18)=true∧wd x 18≤wd x 17:=by
    rcases (zcp _ _ _).1 hph with h1|h1|h1
    · exact h1.2
    · omega
    · omega
  have i1:=(za7 _).1 hpp.1
  have i2:=(za7 _).1 hpp.2.1
  by_cases hnx:zbj x ((wd x 17:Nat):Int)=0
  · obtain ⟨hz,q4,qck⟩:=zEy ho hck p4 hnx
    obtain ⟨-,-,-,m,em,m1,-⟩:=zfc hnx
    obtain ⟨e,hmv⟩:=zGd hck p4 hnx hz em
    obtain ⟨k',hx',hFm,-⟩:=zGi hx i2.1 hpp.2.2 hnx em
    have hd:=zfj ho p4 hz
    have e17:wd (zag x (zac x).2) 17=m+szAt x m:=by
      rw[e]
      have hb:=(zad _).1 hs
      refine zje (j:=17) (by omega) fun e he => ?_
      rcases List.mem_cons.1 he with rfl|he
      · dsimp only;omega
      · obtain ⟨q,hq,rfl⟩:=List.getElem_of_mem he
        rw[zf2];omega
    have e18:wd (zag x (zac x).2) 18=wd x 18+szAt x m:=by
      rw[e,zhd (by omega)]
      have hb:=(zad _).1 hs
      refine zje (j:=18) (by omega) fun e he => ?_
      obtain ⟨q,hq,rfl⟩:=List.getElem_of_mem he
      rw[zf2];omega
    have hx2:SlT ws (zag x (zac x).2) k' (wd (zag x (zac x).2) 17) (wd (zag x (zac x).2) 18):=by
      rw[e17,e18,e];exact hx'
    obtain ⟨j1,j2⟩:=ih _ k' (zdf ho hz) (by omega) qck q4 hx2
    rw[zdp ho p4 hz,if_pos j1]
    exact ⟨rfl,j2⟩
  · have h6:(zac x).1=6:=by
      unfold zac
      rw[if_pos hck,if_neg (by omega),if_neg (by omega),if_neg (by omega),if_pos p4]
      unfold zes
      rw[if_neg hnx]
    rw[zjl p4 h6]
    exact ⟨rfl,p4,hck,hnx,zLg h0 hx i2.1 hpp.2.2 (by rw[←hx.len];omega) i1.2.2 hnx⟩
theorem zzl {x:List Nat} (h0:zae x=0):SlT x x 0 128 128:=⟨rfl,fun _ _ _=>rfl,fun _ _ _=>rfl,Nat.zero_le _,(zfi h0).2.2.2,rfl,fun p hp=>by simp[zal] at hp⟩
end Go.Proofs.YtpcajamacpbjcaaGreat
namespace Go.Proofs.YtpcajamacpbjcaaGreat
open Go.RowKit
noncomputable def v1 (x:List Nat):List Nat:=(zc7 1 x).2.2
noncomputable def v2 (x:List Nat):List Nat:=(zc7 2 (v1 x)).2.2
noncomputable def v3 (x:List Nat):List Nat:=(zc7 3 (v2 x)).2.2
noncomputable def v4 (x:List Nat):List Nat:=(zc7 4 (v3 x)).2.2
noncomputable def vE (x:List Nat):List Nat:=zag (v4 x) (zdx (v4 x))
theorem end_rs {x:List Nat} (ho:∀ v ∈ x,v<18446744073709551616) (hck:zao x=0) (p4:wd x 16=4) (hnx:zbj x ((wd x 17:Nat):Int)≠0):rsE x=(0,[zdx x],zag x (zdx x)):=by
 have hen:=zH1 hck p4 hnx
 have h6:(zac x).1=6:=by
  unfold zac
  rw[if_pos hck,if_neg (by omega),if_neg (by omega),if_neg (by omega),if_pos p4]
  unfold zes
  rw[if_neg hnx]
 have hr:zc8 x=(0,false,zdx x):=by unfold zc8;rw[if_pos h6,if_neg (by omega),hen]
 obtain ⟨os,-,-,-,f1,-,-,f2,-⟩:=zDp hen
 have f3:=(zqq hen).2
 have fck:zao (zag x (zdx x))=0:=by
  unfold zao
  rw[if_pos f2,if_neg (by omega),if_neg (by omega)]
  exact f1
 have g6:(zac (zag x (zdx x))).1=6:=by
  unfold zac
  rw[if_pos fck,if_neg (by omega),if_neg (by omega),if_neg (by omega),if_neg (by omega)]
 have hr2:zc8 (zag x (zdx x))=(0,true,[]):=by unfold zc8;rw[if_pos g6,if_pos f3]
 rw[zhj ho (by rw[hr]) (by rw[hr]),hr]
 dsimp only
 rw[zis (by rw[hr2]) (by rw[hr2]),if_pos rfl]
structure CpF (x:List Nat):Prop where
 e1:(zc7 1 x).1=0
 e2:(zc7 2 (v1 x)).1=0
 e3:(zc7 3 (v2 x)).1=0
 e4:(zc7 4 (v3 x)).1=0
 o1:∀ v ∈ v1 x,v<18446744073709551616
 o2:∀ v ∈ v2 x,v<18446744073709551616
 o3:∀ v ∈ v3 x,v<18446744073709551616
 o4:∀ v ∈ v4 x,v<18446744073709551616
 c1:zao (v1 x)=0
 c2:zao (v2 x)=0
 c3:zao (v3 x)=0
 c4:zao (v4 x)=0
 p1:wd (v1 x) 16=2
 p2:wd (v2 x) 16=3
 p3:wd (v3 x) 16=4
 p4:wd (v4 x) 16=4
 n1:1≤(zc7 1 x).2.1.length
 n2:1≤(zc7 2 (v1 x)).2.1.length
 n3:1≤(zc7 3 (v2 x)).2.1.length
 h1:zae (v1 x)=0
 h2:zae (v2 x)=0
 h3:zae (v3 x)=0
 r1:RmL x (v1 x)
 s1:HsL x (v1 x)
 m1:zd8 (zab (v1 x))=za3 x
 k1:zap (v1 x)=0
 r2:NxL (v1 x) (v2 x)
 d2:zbi (v2 x) 128 128=0
 z2:wd (v2 x) 17=0
 r3:FxT (v2 x) (v3 x) (v2 x).length
 r4:SlE (v3 x) (v4 x) (wd (v4 x) 18)
 l4:∀ i,i<16∨19≤i∧i<112→wd (v4 x) i=wd x i
 nx:zbj (v4 x) ((wd (v4 x) 17:Nat):Int)≠0
 en:zew (v4 x)=0
 all:rsE x=(0,(zc7 1 x).2.1++((zc7 2 (v1 x)).2.1++((zc7 3 (v2 x)).2.1++((zc7 4 (v3 x)).2.1++[zdx (v4 x)]))),vE x)
theorem zjv {p:Nat} {x:List Nat} (ho:∀ v ∈ x,v<18446744073709551616) (e:(zc7 p x).1=0) {L:List (List En)} {y:List Nat} (h:rsE (zc7 p x).2.2=(0,L,y)):rsE x=(0,(zc7 p x).2.1++L,y):=by
 have:=(zBk (p:=p) _ x ho (Nat.le_refl _)).2 e
 unfold zk3 at this
 rw[this,h,if_pos rfl]
theorem cpF {x:List Nat} (ho:∀ v ∈ x,v<18446744073709551616) (p1:wd x 16=1) (hck:zao x=0) (hrc:zap x=0):CpF x:=by
 obtain ⟨a1,a2,a3,a4⟩:=zvb _ x ho (Nat.le_refl _) p1 hck hrc
 obtain ⟨b1,b2,b3,b4,b5⟩:=zGf _ x ho (Nat.le_refl _) p1 hck hrc
 have o1:=(zj8 (p:=1) _ x ho (Nat.le_refl _) a1).1
 have w1:=fun i hi=>zp9 (p:=1) (i:=i) hi _ x ho (Nat.le_refl _) a1
 change ∀ v ∈ v1 x,_ at o1
 change wd (v1 x) 16=2 at a2
 change zcs (v1 x)=0 at a3
 change RmL x (v1 x) at b1
 change HsL x (v1 x) at b2
 change zap (v1 x)=0 at b3
 change za3 (v1 x)=_ at b4
 change zd8 (zab (v1 x))=_ at b5
 change ∀ i,_→wd (v1 x) i=_ at w1
 have h1:=(zas b3).1
 have c1:zao (v1 x)=0:=zxu a3 (by omega) (by omega) h1
 obtain ⟨f1,f2,f3,f4,f5,f6,f7⟩:=zu4 _ (v1 x) o1 (Nat.le_refl _) a2 c1
 obtain ⟨g1,g2⟩:=zIs _ (v1 x) o1 (Nat.le_refl _) a2 c1
 have o2:=(zj8 (p:=2) _ (v1 x) o1 (Nat.le_refl _) f1).1
 have w2:=fun i hi=>zp9 (p:=2) (i:=i) hi _ (v1 x) o1 (Nat.le_refl _) f1
 change ∀ v ∈ v2 x,_ at o2
 change wd (v2 x) 16=3 at f2
 change wd (v2 x) 17=0 at f3
 change zcs (v2 x)=0 at f4
 change zbi (v2 x) 128 128=0 at f6
 change zae (v2 x)=0 at f7
 change NxL (v1 x) (v2 x) at g1
 change za0 (v2 x)=[] at g2
 change ∀ i,_→wd (v2 x) i=_ at w2
 obtain ⟨-,s2,s3⟩:=g1.same h1
 rw[b3] at s2
 rw[b4] at s3
 have hw2:za4 (v2 x)=[]:=zKv s2 (by rw[(g1.mkd h1).1,b5,s3])
 have hI:=zCy o2 f4 f2 f3 s2 hw2 g2
 obtain ⟨i1,i2,i3,i4,i5,i6,i7⟩:=zpl _ (v2 x) o2 (Nat.le_refl _) hI
 have j1:=zKl o2 hI f3
 have o3:=(zj8 (p:=3) _ (v2 x) o2 (Nat.le_refl _) i1).1
 have w3:=fun i hi=>zp9 (p:=3) (i:=i) hi _ (v2 x) o2 (Nat.le_refl _) i1
 change ∀ v ∈ v3 x,_ at o3
 change wd (v3 x) 16=4 at i2
 change wd (v3 x) 17=128 at i3
 change wd (v3 x) 18=128 at i4
 change zao (v3 x)=0 at i5
 change zae (v3 x)=0 at i6
 change FxT (v2 x) (v3 x) _ at j1
 change ∀ i,_→wd (v3 x) i=_ at w3
 obtain ⟨k1,k2,k3,k4,k5⟩:=zJy i6 _ (v3 x) 0 o3 (Nat.le_refl _) i5 i2 (by rw[i3,i4];exact zzl i6)
 have o4:=(zj8 (p:=4) _ (v3 x) o3 (Nat.le_refl _) k1).1
 have w4:=fun i hi=>zp9 (p:=4) (i:=i) hi _ (v3 x) o3 (Nat.le_refl _) k1
 have hfin:=end_rs o4 k3 k2 k4
 have q4:=zjv o3 k1 hfin
 have q3:=zjv o2 i1 q4
 have q2:=zjv o1 f1 q3
 have q1:=zjv ho a1 q2
 exact ⟨a1,f1,i1,k1,o1,o2,o3,o4,c1,hI.ck,i5,k3,a2,f2,i2,k2,a4,f5,i7,h1,f7,i6,b1,b2,b5,b3,g1,f6,f3,j1,k5,fun i hi=>(w4 i hi).trans ((w3 i hi).trans ((w2 i hi).trans (w1 i hi))),k4,zH1 k3 k2 k4,q1⟩
end Go.Proofs.YtpcajamacpbjcaaGreat
namespace Go.Proofs.YtpcajamacpbjcaaGreat
open Go.RowKit
noncomputable def mkS (x:List Nat) (b:Bk):Bk:={ b with mark:=zd6 x b }
noncomputable def cpL (x:List Nat):List Bk:=(zab x).map (mkS x)
noncomputable def cpM (x:List Nat):List (Int × Int):=zal (cpL x) 128
def FxV (M:List (Int × Int)) (v u:Nat):Prop:=(v=0∧u=0)∨(0<v∧ze2 M (v:Int)=some (u:Int))
theorem zz5 {x:List Nat} (h0:zae x=0) {m:Nat}:Mk x m↔(m:Int) ∈ zd8 (zab x):=by
 unfold zd8
 rw[List.mem_map]
 constructor
 · rintro ⟨h1,h2⟩
   exact ⟨bkAt x m,List.mem_filter.2 ⟨h1,h2⟩,zaa x m⟩
 · rintro ⟨c,hc,e⟩
   obtain ⟨c1,c2⟩:=List.mem_filter.1 hc
   obtain ⟨a,rfl,-⟩:=(zb1 h0).1 c c1
   rw[zaa] at e
   obtain rfl:a=m:=by omega
   exact ⟨c1,c2⟩
theorem zD6 {x:List Nat} (h:zap x=0) (hm:zd8 (zab x)=za3 x) {b:Bk} (hb:b ∈ zab x):b.mark=zd6 x b:=by
 obtain ⟨h1,-,-⟩:=zas h
 obtain ⟨a,rfl,a1,a2,a3,a4⟩:=(zb1 h1).1 b hb
 rw[Bool.eq_iff_iff,zem a3]
 constructor
 · intro hk
   have h5:(a:Int) ∈ zd8 (zab x):=(zz5 h1).1 ⟨hb,hk⟩
   rw[hm,zd5 h] at h5
   obtain ⟨a',e,-,hr⟩:=h5
   obtain rfl:a=a':=by omega
   exact hr
 · intro hr
   have h5:(a:Int) ∈ za3 x:=(zd5 h _).2 ⟨a,rfl,a3,hr⟩
   rw[←hm,←zz5 h1] at h5
   exact h5.2
theorem end_nx (xs:List Nat):∀ (l:List Bk) (s:Int),zat (l.map (nxB xs)) s=zat l s:=by
 intro l
 induction l with
 | nil=>intro s;rfl
 | cons b l ih =>
  intro s
  have e:zax (nxB xs b)=zax b:=rfl
  have e3:(nxB xs b).size=b.size:=rfl
  simp only[List.map_cons,zat,e,e3,ih]
theorem zHx {ws:List Nat} (h0:zae ws=0) {m:Nat} (ho:zep ws m) (r:Int):r ∈ zb0 ws (m:Int)↔∃ i:Nat,r=((m+2+i:Nat):Int)∧(flds ws m)[i]? = some 3:=by
 obtain ⟨k,hk,e,-⟩:=ho.2.2.2.2.2.2
 have hmem:bkAt ws m ∈ zab ws:=by rw[←e];exact List.getElem_mem hk
 have hfr:za5 ws 128=zab ws:=(zfi h0).2.1
 obtain ⟨b2,hb2⟩:=zmp (l:=zab ws) (a:=(m:Int)) hmem (zaa ws m) ho.2.2.2.2.1
 obtain ⟨f1,f2,f3⟩:=zh7 hb2
 obtain rfl:=zp2 (zb1 h0).2 f1 hmem (by rw[f2,zaa])
 have er:zb0 ws (m:Int)=zfr ws (bkAt ws m):=by
   unfold zb0
   rw[if_pos h0,hfr,hb2]
 have hf:zxs ws (bkAt ws m)=flds ws m:=rfl
 rw[er]
 unfold zfr
 rw[zke,hf,zaa]
 constructor
 · rintro ⟨i,-,i2,i3⟩
   exact ⟨i,by omega,i2⟩
 · rintro ⟨i,i1,i2⟩
   exact ⟨i,(List.getElem?_eq_some_iff.1 i2).1,i2,by omega⟩
theorem in_obj {ws:List Nat} (h0:zae ws=0) {m j:Nat} (ho:zep ws m) (h1:2≤j) (h2:j<szAt ws m) {b:Bk} (hb:b ∈ zab ws):b.at_≠((m+j:Nat):Int)∧b.at_+1≠((m+j:Nat):Int):=by
 have:=zgm h0 ho hb
 omega
section
variable {x:List Nat}
theorem CpF.bl1 (F:CpF x) (hrc:zap x=0):zab (v1 x)=cpL x:=by
 obtain ⟨g1,g2,g3,g4,g5⟩:=F.r1.same hrc
 rw[g5]
 unfold cpL
 refine List.map_congr_left fun b hb => ?_
 have hb2:mkB (v1 x) b ∈ zab (v1 x):=by rw[g5];exact List.mem_map_of_mem hb
 have:=zD6 g1 (by rw[F.m1,g2]) hb2
 have e:zd6 (v1 x) (mkB (v1 x) b)=zd6 x b:=by unfold zd6;rw[g3];rfl
 rw[e] at this
 unfold mkB mkS at *
 dsimp only at this
 rw[this]
theorem CpF.bl2 (F:CpF x):zab (v2 x)=(zab (v1 x)).map (nxB (v2 x)):=((F.r2.ev F.h1).heap F.h1).2
theorem CpF.bl3 (F:CpF x):zab (v3 x)=zab (v2 x):=(F.r3.hd.heap F.h2).2
theorem CpF.mvs (F:CpF x) (hrc:zap x=0):zal (zab (v2 x)) 128=cpM x∧zat (zab (v2 x)) 128=zat (cpL x) 128∧zhn (v2 x) 128 128=cpM x:=by
 have e1:zal (zab (v2 x)) 128=cpM x:=by rw[F.bl2,zv4,F.bl1 hrc];rfl
 refine ⟨e1,by rw[F.bl2,end_nx,F.bl1 hrc],?_⟩
 obtain ⟨-,-,l,r3,-,r5⟩:=zb8 F.d2
 rw[show ((128:Int)).toNat=128 from rfl,(zfi F.h2).2.2.2] at r3
 obtain rfl:=Option.some.inj r3
 rw[r5,e1]
theorem CpF.mk2 (F:CpF x) (hrc:zap x=0) {m:Nat}:Mk (v2 x) m↔Rch x m:=by
 rw[zz5 F.h2,(F.r2.mkd F.h1).1,F.m1,zd5 hrc]
 constructor
 · rintro ⟨a,e,-,h⟩
   obtain rfl:m=a:=by omega
   exact h
 · intro h
   exact ⟨m,rfl,zn4 ((zas hrc).2.2 m h),h⟩
theorem zHv (hrc:zap x=0) (F:CpF x):(cpM x).map Prod.fst=za3 x:=by
 have h:=zky (zh3 (zfi F.h1).2.2.2 (by omega)) 128
 rw[F.m1,F.bl1 hrc] at h
 exact h.symm
theorem zE9:∀ {M:List (Int × Int)} {a:Int},a ∈ M.map Prod.fst→∃ t,ze2 M a=some t:=by
 intro M
 induction M with
 | nil=>intro a h;simp at h
 | cons p M ih =>
  intro a h
  simp only[ze2]
  by_cases e:p.1=a
  · exact ⟨p.2,by rw[if_pos e]⟩
  · rw[if_neg e]
    rw[List.map_cons,List.mem_cons] at h
    exact ih (h.resolve_left fun h=>e h.symm)
theorem znh (hrc:zap x=0) {m:Nat} (h:Rch x m):zep x m:=by
 obtain ⟨b,-,-,-,h4⟩:=zqf hrc h
 exact h4
theorem CpF.sz (F:CpF x) (hrc:zap x=0) {m:Nat} (h:Rch x m):szAt (v3 x) m=szAt x m∧zep (v2 x) m∧flds (v2 x) m=flds x m∧(wd (v3 x) m=wd (v1 x) m):=by
 have hm:=(F.mk2 hrc).2 h
 have ho:=znh hrc h
 have h0:=(zas hrc).1
 have ht:=(zas hrc).2.2 m h
 have e3:=(F.r3.hd.blk _ hm.1).1
 rw[zaa,Int.toNat_natCast] at e3
 have e2:wd (v2 x) m=wd (v1 x) m:=F.r2.even F.h1 (by have:=ho.1;omega) ho.2.1
 refine ⟨?_,(zo5 F.h2 hm).1,?_,e3.trans e2⟩
 · rw[←F.r1.szAt m (by have:=ho.1;omega)]
   unfold szAt
   rw[e3,e2]
 · rw[F.r2.flds F.h1 (by rw[F.r1.tb h0];exact ht),F.r1.flds h0 ht]
theorem CpF.in_ (F:CpF x) (hrc:zap x=0) {m j:Nat} (h:Rch x m) (h1:2≤j) (h2:j<szAt x m):wd (v2 x) (m+j)=wd x (m+j):=by
 have ho:=znh hrc h
 have h0:=(zas hrc).1
 have hin:=fun b hb=>in_obj (b:=b) h0 ho h1 h2 hb
 have h128:=ho.1
 have e1:wd (v2 x) (m+j)=wd (v1 x) (m+j):=by
   rcases F.r2.at_ (m+j) (by omega) with h3|⟨b,hb,h3⟩
   · exact h3
   · rw[(F.r1.heap h0).2] at hb
     obtain ⟨b0,hb0,rfl⟩:=List.mem_map.1 hb
     exact absurd h3.symm (hin b0 hb0).2
 rw[e1]
 rcases F.s1 (m+j) (by omega) with h3|⟨b,hb,h3⟩
 · exact h3
 · exact absurd h3.symm (hin b hb).1
structure CpD (w z:List Nat) (M:List (Int × Int)) (T:Nat):Prop where
 len:z.length=w.length
 low:∀ i,i<16∨19≤i∧i<112→wd z i=wd w i
 line:wd z 16=0∧wd z 17=0∧wd z 18=0
 sl:∀ i,i<16→slAt z i=nwS w M i
 obj:∀ p ∈ M,∃ m t:Nat,p=((m:Int),(t:Int))∧Rch w m∧128≤t∧t+szAt w m≤T∧2≤szAt w m∧wd z t=zcg { zaf (wd w m) with mark:=false }∧wd z (t+1)=0∧(∀ i,(flds w m)[i]? = some 3→FxV M (wd w (m+2+i)) (wd z (t+2+i)))∧∀ i,2+i<szAt w m→(flds w m)[i]? ≠ some 3→wd z (t+2+i)=wd w (m+2+i)
 to:128≤T∧T≤w.length∧T % 2=0
 free:T<w.length→wd z T=zcg (zc3 (w.length - T))∧wd z (T+1)=0
 rest:∀ i,T+2≤i→(∀ b ∈ zab w,(i:Int)≠b.at_∧(i:Int)≠b.at_+1)→(∀ m,Rch w m→¬ (m≤i∧i<m+szAt w m))→wd z i=wd w i
theorem okFx_v {ws y:List Nat} {M:List (Int × Int)} {r:Nat} (h:zEg ws y M r):FxV M (wd ws r) (wd y r):=by
 rcases h with h|⟨h1,t,m,h2,h3,-⟩
 · exact .inl h
 · exact .inr ⟨h1,by rw[h3];exact h2⟩
theorem CpF.desc (F:CpF x) (hrc:zap x=0):CpD x (vE x) (cpM x) (zat (cpL x) 128).toNat∧zat (cpL x) 128=((zat (cpL x) 128).toNat:Int):=by
 have h0:=(zas hrc).1
 obtain ⟨m1,m2,m3⟩:=F.mvs hrc
 obtain ⟨hs,-,-,-,i5,i6,-,i8⟩:=zg9 F.en
 have hi:=(za7 _).1 i5
 have hTe:zat (cpL x) 128=((wd (v4 x) 18:Nat):Int):=by
   rw[←m2,←F.bl3]
   exact F.r4.to
 have hT:(zat (cpL x) 128).toNat=wd (v4 x) 18:=by omega
 rw[hT]
 obtain ⟨T,hTT⟩:∃ T,wd (v4 x) 18=T:=⟨_,rfl⟩
 have hlen:(v4 x).length=x.length:=by
   rw[F.r4.len,F.r3.hd.len,F.r2.len,F.r1.len]
 have hput:=zAa F.en
 rw[i8,hTT,hlen] at hput
 change ∀ j,wd (vE x) j=_ at hput
 have r4:=F.r4
 rw[hTT] at i6 hi r4 ⊢
 rw[hlen] at i6
 have hzi:∀ i,19≤i→i<T→wd (vE x) i=wd (v4 x) i:=fun i h1 h2=>by
   rw[hput,if_neg (by omega),if_neg (by omega),if_neg (by omega)]
 refine ⟨⟨?_,fun i hi2 => ?_,⟨by rw[hput,if_pos (by omega)],by rw[hput,if_pos (by omega)],by rw[hput,if_pos (by omega)]⟩,fun i hi2 => ?_,fun p hp => ?_,⟨hi.1,i6,hi.2.2⟩,fun hlt=>⟨?_,?_⟩,fun i hi2 hb hm => ?_⟩,by omega⟩
 · unfold vE
   rw[zau,hlen]
 · rw[hput,if_neg (by omega),if_neg (by omega),if_neg (by omega)]
   exact F.l4 i hi2
 · have e1:slAt (vE x) i=slAt (v3 x) i:=by
     unfold slAt
     rw[hzi _ (by omega) (by omega),r4.low _ (by omega) (by omega)]
   have e2:slAt (v2 x) i=slAt x i:=by
     rw[F.r2.slAt F.h1 hi2,F.r1.slAt hi2]
   rw[e1,F.r3.sl i hi2,m3]
   unfold nwS
   rw[e2]
 · have hp3:p ∈ zal (zab (v3 x)) 128:=by rw[F.bl3,m1];exact hp
   obtain ⟨m,t,rfl,⟨w1,w2,w3⟩,t1,t2,t3⟩:=r4.mv p hp3
   have hrm:Rch x m:=by
     have:(m:Int) ∈ (cpM x).map Prod.fst:=List.mem_map.2 ⟨_,hp,rfl⟩
     rw[zHv hrc F,zd5 hrc] at this
     obtain ⟨a,e,-,h⟩:=this
     obtain rfl:m=a:=by omega
     exact h
   obtain ⟨s1,s2,s3,s4⟩:=F.sz hrc hrm
   have ho:=znh hrc hrm
   have h128:=ho.1
   rw[s1] at w3 t2 t3
   refine ⟨m,t,rfl,hrm,t1,t2,t3,?_,?_,fun i hf => ?_,fun i h1 hf => ?_⟩
   · rw[hzi _ (by omega) (by omega),w1,s4,F.r1.raw m (by omega)]
   · rw[hzi _ (by omega) (by omega),w2]
   · have hr:((m+2+i:Nat):Int) ∈ zb0 (v2 x) (m:Int):=(zHx F.h2 s2 _).2 ⟨i,rfl,by rw[s3];exact hf⟩
     obtain ⟨i',e1,-,e2,-⟩:=zgl F.h2 hr
     have hsz:szAt (v2 x) m=szAt x m:=by
       have e2:wd (v2 x) m=wd (v1 x) m:=F.r2.even F.h1 (by omega) ho.2.1
       rw[←F.r1.szAt m (by omega)]
       unfold szAt
       rw[e2]
     have hlt:2+i<szAt x m:=by omega
     have hd:=F.r3.done m ((F.mk2 hrc).2 hrm) (by have:=s2.2.2.1;omega) _ hr
     rw[Int.toNat_natCast,m3] at hd
     have:=okFx_v hd
     rw[show m+2+i=m+(2+i) by omega,F.in_ hrc hrm (by omega) hlt] at this
     rw[show m+2+i=m+(2+i) by omega,show t+2+i=t+(2+i) by omega,hzi _ (by omega) (by omega),w3 _ (by omega) hlt]
     exact this
   · rw[show m+2+i=m+(2+i) by omega,show t+2+i=t+(2+i) by omega,hzi _ (by omega) (by omega),w3 _ (by omega) (by omega),F.r3.off _ (by omega) fun m' hm' hr => ?_,F.in_ hrc hrm (by omega) h1]
     have hmm:=(F.mk2 hrc).2 hrm
     obtain ⟨i',e1,-,e2,-⟩:=zgl F.h2 hr
     have hsz:szAt (v2 x) m=szAt x m:=by
       have e2:wd (v2 x) m=wd (v1 x) m:=F.r2.even F.h1 (by omega) ho.2.1
       rw[←F.r1.szAt m (by omega)]
       unfold szAt
       rw[e2]
     have hq:m=m':=by
       rcases Nat.lt_trichotomy m m' with h5|h5|h5
       · have:=zg2 F.h2 hmm hm' h5;omega
       · exact h5
       · have:=zg2 F.h2 hm' hmm h5;omega
     subst hq
     obtain ⟨i2,e3,e4⟩:=(zHx F.h2 s2 _).1 hr
     obtain rfl:i=i2:=by omega
     rw[s3] at e4
     exact hf e4
 · rw[hput,if_neg (by omega),if_pos ⟨hlt,rfl⟩]
 · rw[hput,if_neg (by omega),if_neg (by omega),if_pos ⟨hlt,rfl⟩]
 · have e4:wd (vE x) i=wd (v4 x) i:=by rw[hput,if_neg (by omega),if_neg (by omega),if_neg (by omega)]
   rw[e4,r4.up i (by omega) (by omega),F.r3.off i (by omega) fun m' hm' hr => ?_]
   · have e2:wd (v2 x) i=wd (v1 x) i:=by
       rcases F.r2.at_ i (by omega) with h3|⟨b,hb2,h3⟩
       · exact h3
       · rw[(F.r1.heap h0).2] at hb2
         obtain ⟨b0,hb0,rfl⟩:=List.mem_map.1 hb2
         exact absurd h3 (hb b0 hb0).2
     rw[e2]
     rcases F.s1 i (by omega) with h3|⟨b,hb2,h3⟩
     · exact h3
     · exact absurd h3 (hb b hb2).1
   · obtain ⟨i',e1,-,e2,e3⟩:=zgl F.h2 hr
     have hrm:=(F.mk2 hrc).1 hm'
     have ho:=znh hrc hrm
     have h128:=ho.1
     have hsz:szAt (v2 x) m'=szAt x m':=by
       have e2:wd (v2 x) m'=wd (v1 x) m':=F.r2.even F.h1 (by omega) ho.2.1
       rw[←F.r1.szAt m' (by omega)]
       unfold szAt
       rw[e2]
     exact hm m' hrm ⟨by omega,by omega⟩
end
end Go.Proofs.YtpcajamacpbjcaaGreat
