/- Texts laid together: StgR Frsh Al25P StgN StgM StgT MkJP FxTP StgV. -/
import Derived.Test.YtpcajamacpbjcaaGreatZKStg2
import Derived.Test.YtpcajamacpbjcaaGreatZKMove
import Derived.Test.YtpcajamacpbjcaaGreatZKImage
import Derived.Test.YtpcajamacpbjcaaGreatZKStg1
import Derived.Test.YtpcajamacpbjcaaGreatZKFix
namespace Go.Proofs.YtpcajamacpbjcaaGreat
open Go.RowKit
def stX (x:List Nat) (outs:List (List En)) (n:Nat):List Nat:=(outs.take n).foldl zag x
theorem zwb (x:List Nat) (outs:List (List En)):stX x outs 0=x:=rfl
theorem zFs (x:List Nat) (E:List En) (outs:List (List En)) (n:Nat):stX x (E :: outs) (n+1)=stX (zag x E) outs n:=rfl
end Go.Proofs.YtpcajamacpbjcaaGreat
namespace Go.Proofs.YtpcajamacpbjcaaGreat
open Go.RowKit
def zmg:List Nat:=zmr 256 [] [] []
theorem zim:zmg.length=256:=by decide +kernel
end Go.Proofs.YtpcajamacpbjcaaGreat
namespace Go.Proofs.YtpcajamacpbjcaaGreat
open Go.RowKit
end Go.Proofs.YtpcajamacpbjcaaGreat
namespace Go.Proofs.YtpcajamacpbjcaaGreat
open Go.RowKit
end Go.Proofs.YtpcajamacpbjcaaGreat
namespace Go.Proofs.YtpcajamacpbjcaaGreat
open Go.RowKit
theorem hpOut_few (ws:List Nat):(zab ws).length≤ws.length:=by
 unfold zab
 split
 · rename_i h
   obtain ⟨h1,l,h2,-⟩:=zam h
   have hb:=(zad _).1 h1
   have:=(zbs (by omega) _ _ h2 (by omega) (by omega) (by omega)).1
   rw[h2];simp only[Option.getD_some];omega
 · simp
end Go.Proofs.YtpcajamacpbjcaaGreat
namespace Go.Proofs.YtpcajamacpbjcaaGreat
theorem zLc {x:List Nat} (p1:wd x 16=1) (h:(zac x).1=0):zap x=0∧zac x=(0,zg1 (za4 x) 2):=by
 have hck:zao x=0:=by
  by_cases h0:zao x=0
  · exact h0
  · unfold zac at h;rw[if_neg h0] at h;exact absurd h h0
 have hrc:zap x=0:=by
  by_cases h0:zap x=0
  · exact h0
  · unfold zac at h;rw[if_pos hck,if_pos p1,if_neg h0] at h;exact absurd h h0
 exact ⟨hrc,by unfold zac;rw[if_pos hck,if_pos p1,if_pos hrc]⟩
theorem zz0 {x:List Nat} (p2:wd x 16=2) (h:(zac x).1=0):zae x=0∧zac x=(0,zg1 (za0 x) 3):=by
 have hck:zao x=0:=by
  by_cases h0:zao x=0
  · exact h0
  · unfold zac at h;rw[if_neg h0] at h;exact absurd h h0
 have p1:¬ wd x 16=1:=by omega
 have hhp:zae x=0:=by
  by_cases h0:zae x=0
  · exact h0
  · unfold zac at h;rw[if_pos hck,if_neg p1,if_pos p2,if_neg h0] at h;exact absurd h h0
 exact ⟨hhp,by unfold zac;rw[if_pos hck,if_neg p1,if_pos p2,if_pos hhp]⟩
theorem zI8 {x:List Nat} (p1:wd x 16=1) (h:(zac x).1=0) (h32:32≤(za4 x).length):zap (zag x (zac x).2)=0∧za3 (zag x (zac x).2)=za3 x:=by
 obtain ⟨hrc,e⟩:=zLc p1 h
 rw[e]
 dsimp only
 rw[zcd h32]
 obtain ⟨g1,g2,-⟩:=(zg4 hrc (List.take_sublist 31 _)).same hrc
 exact ⟨g1,g2⟩
structure RmL (ws xs:List Nat):Prop where
 len:xs.length=ws.length
 at_:∀ i,19≤i→wd xs i=wd ws i∨(128≤i∧i % 2=0∧zar (wd ws i)=true∧(zaf (wd ws i)).kind=1∧∃ m,wd xs i=zf1 (wd ws i) m)
section
variable {ws xs:List Nat}
theorem RmL.low (h:RmL ws xs) {i:Nat} (h19:19≤i) (hi:i<128):wd xs i=wd ws i:=by
 rcases h.at_ i h19 with h1|h1
 · exact h1
 · omega
theorem RmL.odd (h:RmL ws xs) {i:Nat} (h19:19≤i) (hi:i % 2=1):wd xs i=wd ws i:=by
 rcases h.at_ i h19 with h1|h1
 · exact h1
 · omega
theorem RmL.sp (h:RmL ws xs) (i:Nat) (h19:19≤i):zar (wd xs i)=zar (wd ws i):=by
 rcases h.at_ i h19 with h1|⟨-,-,h3,h4,m,h5⟩
 · rw[h1]
 · rw[h5,h3,(zhg h3 h4 m).1]
theorem RmL.raw (h:RmL ws xs) (i:Nat) (h19:19≤i):zaf (wd xs i)={ zaf (wd ws i) with mark:=zrh xs i }:=by
 unfold zrh
 rcases h.at_ i h19 with h1|⟨-,-,h3,h4,m,h5⟩
 · rw[h1]
 · rw[h5,(zhg h3 h4 m).2.1]
theorem RmL.sz (h:RmL ws xs) (i:Nat) (h19:19≤i):(zaf (wd xs i)).size=(zaf (wd ws i)).size:=by rw[h.raw i h19]
theorem RmL.szAt (h:RmL ws xs) (i:Nat) (h19:19≤i):szAt xs i=szAt ws i:=by
 have h1:=h.sz i h19
 have e:∀ w,(zaf w).size=((w / 65536 % 65536:Nat):Int):=fun _=>rfl
 rw[e,e] at h1
 unfold Proofs.YtpcajamacpbjcaaGreat.szAt
 exact Int.ofNat.inj h1
theorem RmL.stands (h:RmL ws xs) (i:Nat) (h19:19≤i):stands xs i=stands ws i:=by
 unfold Proofs.YtpcajamacpbjcaaGreat.stands
 rw[h.sp i h19,h.sz i h19,h.len]
theorem RmL.bkAt (h:RmL ws xs) {i:Nat} (h19:19≤i) (hi:i % 2=0):bkAt xs i=mkB xs (bkAt ws i):=by
 unfold mkB
 have h1:(Proofs.YtpcajamacpbjcaaGreat.bkAt ws i).at_.toNat=i:=by rw[zaa,Int.toNat_natCast]
 rw[h1]
 unfold Proofs.YtpcajamacpbjcaaGreat.bkAt
 rw[h.raw i h19,h.odd (i:=i+1) (by omega) (by omega)]
theorem RmL.blocks (h:RmL ws xs):∀ i l,blocks ws i=some l→i % 2=0→19≤i→blocks xs i=some (l.map (mkB xs)):=by
 refine zdb (fun i l=>i % 2=0→19≤i→Proofs.YtpcajamacpbjcaaGreat.blocks xs i=some (l.map (mkB xs))) (fun i hi _ _ => ?_) (fun i l hi hs hb ih h2 h19 => ?_)
 · exact zaq (by rw[h.len];exact hi)
 · have hsz:=zav hs
   have ih:=ih (by omega) (by omega)
   rw[zaz (by rw[h.len];exact hi) (by rw[h.stands i h19];exact hs),h.szAt i h19,ih,h.bkAt h19 h2]
   rfl
theorem zGu (h:RmL ws xs) {b:Bk} (hb:b.kind=1→tyA b+1<128):zds xs (mkB xs b)=zds ws b:=by
 by_cases hk:b.kind=1
 · have h2:=hb hk
   unfold zds zc2
   show (b.kind != 1 || (zb7 (wd xs (tyA b)) (wd xs (tyA b+1)) && b.size == ((za8 (wd xs (tyA b) % 256):Nat):Int)))=_
   rw[h.low (by unfold tyA;omega) (by omega),h.low (by unfold tyA;omega) (by omega)]
 · rw[zd3 hk,zd3 (b:=mkB xs b) hk]
theorem RmL.heap (h:RmL ws xs) (h0:zae ws=0):zae xs=0∧zab xs=(zab ws).map (mkB xs):=by
 obtain ⟨h1,l,h2,h3,h4⟩:=zam h0
 have hb:=h.blocks 128 l h2 (by omega) (by omega)
 rw[h4]
 refine ze7 (by rw[h.len];exact h1) hb ?_
 rw[List.all_map,List.all_eq_true]
 rw[List.all_eq_true] at h3
 intro b hb2
 show zds xs (mkB xs b)=true
 rw[zGu h (zgo h2 (by omega) b hb2)]
 exact h3 b hb2
theorem RmL.tb (h:RmL ws xs) (h0:zae ws=0) (a:Nat):tb xs a=tb ws a:=by
 unfold Proofs.YtpcajamacpbjcaaGreat.tb
 rw[(h.heap h0).2,h.len,zC7]
theorem RmL.slAt (h:RmL ws xs) {i:Nat} (hi:i<16):slAt xs i=slAt ws i:=by
 unfold Proofs.YtpcajamacpbjcaaGreat.slAt
 rw[h.low (by omega) (by omega)]
theorem RmL.slsOk (h:RmL ws xs):slsOk xs=slsOk ws:=by
 rw[Bool.eq_iff_iff,zb9,zb9]
 unfold znx
 constructor
 · intro h1 i hi;rw[←h.slAt hi];exact h1 i hi
 · intro h1 i hi;rw[h.slAt hi];exact h1 i hi
theorem RmL.flds (h:RmL ws xs) (h0:zae ws=0) {a:Nat} (ha:Proofs.YtpcajamacpbjcaaGreat.tb ws a≠0):flds xs a=flds ws a:=by
 obtain ⟨ho,-⟩:=zhp h0 ha
 have:=zkx ho
 have h19:=ho.1
 unfold Proofs.YtpcajamacpbjcaaGreat.flds
 rw[h.raw a (by omega)]
 dsimp only
 rw[h.low (by omega) (by omega),h.low (by omega) (by omega)]
theorem RmL.ref (h:RmL ws xs) (hg:zst ws) (h0:zae ws=0) {a i:Nat} (ha:Rch ws a) (ht:Proofs.YtpcajamacpbjcaaGreat.tb ws a≠0) (hf:(Proofs.YtpcajamacpbjcaaGreat.flds ws a)[i]? = some 3):wd xs (a+2+i)=wd ws (a+2+i):=by
 have h19:=(zhp h0 ht).1.1
 rcases h.at_ (a+2+i) (by omega) with h1|⟨-,-,h3,-⟩
 · exact h1
 · exfalso
   have hb:=zm3 h3
   have h4:=hg _ (Rch.ref a i ha ht hf (by omega))
   rw[Nat.min_eq_right (by omega)] at h4
   have:=zn4 h4
   have:=(zf5 ws (zam h0).1).2.1
   omega
theorem RmL.rch (h:RmL ws xs) (hg:zst ws) (h0:zae ws=0) (a:Nat):Rch xs a↔Rch ws a:=by
 constructor
 · intro ha
   induction ha with
   | slot i hi hu=>rw[h.slAt hi] at hu ⊢;exact Rch.slot i hi hu
   | ref a i ha ht hf hv ih =>
    rw[h.tb h0] at ht
    rw[h.flds h0 ht] at hf
    rw[h.ref hg h0 ih ht hf] at hv ⊢
    exact Rch.ref a i ih ht hf hv
 · intro ha
   induction ha with
   | slot i hi hu=>rw[←h.slAt hi] at hu ⊢;exact Rch.slot i hi hu
   | ref a i ha ht hf hv ih =>
    rw[←h.ref hg h0 ha ht hf] at hv ⊢
    exact Rch.ref a i ih (by rw[h.tb h0];exact ht) (by rw[h.flds h0 ht];exact hf) hv
theorem RmL.same (h:RmL ws xs) (h0:zap ws=0):zap xs=0∧za3 xs=za3 ws∧seenL xs=seenL ws∧zae xs=0∧zab xs=(zab ws).map (mkB xs):=by
 obtain ⟨h1,h2,h3⟩:=zas h0
 have hr:=h.rch h3 h1
 have hh:=h.heap h1
 have hg:zst xs:=fun a ha=>by rw[h.tb h1];exact h3 a ((hr a).1 ha)
 have he:zap xs=0:=zEb hh.1 (by rw[h.slsOk];exact h2) hg
 have hs:seenL xs=seenL ws:=by
  unfold seenL
  rw[h.len]
  refine List.map_congr_left fun a _ => ?_
  exact decide_eq_decide.2 (hr a)
 refine ⟨he,?_,hs,hh⟩
 rw[zde he,zde h0,hs,h.len]
end
theorem zkq {i:Nat}:∀ {l:List En} {x z:List Nat},z.length=x.length→wd z i=wd x i→wd (zag z l) i=wd (zag x l) i:=by
 intro l
 induction l with
 | nil=>intro x z _ h;exact h
 | cons e l ih =>
  intro x z hl h
  simp only[zag]
  rw[hl]
  split
  · refine ih (by rw[List.length_set,List.length_set,hl]) ?_
    rename_i hr
    by_cases hi:i=e.a.toNat
    · subst hi
      unfold wd
      rw[List.getElem?_set_self (by omega),List.getElem?_set_self (by omega)]
    · unfold wd
      rw[List.getElem?_set_ne (by omega),List.getElem?_set_ne (by omega)]
      exact h
  · exact ih hl h
theorem zus {x:List Nat} (h:zap x=0) (p:Nat):RmL x (zag x (⟨16,p⟩ :: za4 x)):=by
 have hr:=zAj h
 refine ⟨zau _ _,fun i h19 => ?_⟩
 have e:wd (zag x (⟨16,p⟩ :: za4 x)) i=wd (zag x (za4 x)) i:=by
  simp only[zag]
  split
  · refine zkq (by rw[List.length_set]) ?_
    unfold wd
    rw[List.getElem?_set_ne (by simp;omega)]
  · rfl
 rw[e]
 exact hr.at_ i
theorem zJ2 {x:List Nat} {l:List En} (p:Nat) {i:Nat} (h19:19≤i):wd (zag x (⟨16,p⟩ :: l)) i=wd (zag x l) i:=by
 simp only[zag]
 split
 · refine zkq (by rw[List.length_set]) ?_
   unfold wd
   rw[List.getElem?_set_ne (by simp;omega)]
 · rfl
theorem zJn {x:List Nat} (h:zap x=0) (p:Nat):zap (zag x (⟨16,p⟩ :: za4 x))=0∧za3 (zag x (⟨16,p⟩ :: za4 x))=za3 x∧zae (zag x (⟨16,p⟩ :: za4 x))=0∧zd8 (zab (zag x (⟨16,p⟩ :: za4 x)))=za3 x:=by
 obtain ⟨g1,g2,g3,g4,g5⟩:=(zus h p).same h
 refine ⟨g1,g2,g4,?_⟩
 rw[g5,←zE3 h]
 congr 1
 refine List.map_congr_left fun b hb => ?_
 obtain ⟨a,rfl,a1,-⟩:=(zb1 (zas h).1).1 b hb
 unfold mkB zrh
 rw[zaa,Int.toNat_natCast,zJ2 p (by omega)]
end Go.Proofs.YtpcajamacpbjcaaGreat
namespace Go.Proofs.YtpcajamacpbjcaaGreat
open Go.RowKit
def refsN (ws:List Nat) (a k:Nat):List Int:=((List.range k).filter fun i=>(flds ws a)[i]? == some 3).map fun i=>((a+2+i:Nat):Int)
def zJq (ws:List Nat) (a:Nat):List Int:=refsN ws a (flds ws a).length
theorem zr5 {ws:List Nat} {a:Nat} {x:Int}:x ∈ zJq ws a↔∃ i:Nat,x=((a+2+i:Nat):Int)∧(flds ws a)[i]? = some 3:=by
 unfold zJq refsN
 rw[List.mem_map]
 constructor
 · rintro ⟨i,hi,rfl⟩
   rw[List.mem_filter] at hi
   exact ⟨i,rfl,by simpa using hi.2⟩
 · rintro ⟨i,rfl,hi⟩
   refine ⟨i,List.mem_filter.2 ⟨List.mem_range.2 (List.getElem?_eq_some_iff.1 hi).1,by simpa using hi⟩,rfl⟩
theorem zJz {ws:List Nat} (h:zap ws=0) {a:Nat} (ha:Rch ws a) {r:Int} (hr:r ∈ zJq ws a):(∃ j:Nat,r=(j:Int)∧j<ws.length)∧wd ws r.toNat<ws.length∧(wd ws r.toNat≠0→Rch ws (wd ws r.toNat)):=by
 obtain ⟨h1,h2,h3⟩:=zas h
 obtain ⟨i,rfl,hi⟩:=zr5.1 hr
 have hb:=zf5 ws (zam h1).1
 obtain ⟨ho,-⟩:=zhp h1 (h3 a ha)
 have hin:=ztw ho (List.getElem?_eq_some_iff.1 hi).1
 refine ⟨⟨_,rfl,hin⟩,?_⟩
 rw[Int.toNat_natCast]
 by_cases hv:wd ws (a+2+i)=0
 · exact ⟨by omega,fun h=>absurd hv h⟩
 · have hr:=Rch.ref a i ha (h3 a ha) hi hv
   have ht:=zn4 (h3 _ hr)
   have e:min (wd ws (a+2+i)) 2048=wd ws (a+2+i):=by omega
   rw[e] at hr ht
   exact ⟨ht,fun _=>hr⟩
theorem obj_from {ws:List Nat} (h:zap ws=0) {a:Nat} (ha:Rch ws a):zca ws (a:Int)=0∧(∃ h2:0<(za5 ws (a:Int)).length,(za5 ws (a:Int))[0]=bkAt ws a)∧(bkAt ws a).kind=1∧(∃ t:Nat,(bkAt ws a).typ=(t:Int)∧t<8∧zb7 (wd ws (96+2 * t)) (wd ws (96+2 * t+1))=true∧flds ws a=zbd (wd ws (96+2 * t)) (wd ws (96+2 * t+1)))∧a+2+(flds ws a).length≤ws.length:=by
 obtain ⟨h1,h2,h3⟩:=zas h
 obtain ⟨ho,-⟩:=zhp h1 (h3 a ha)
 have hty:=zkx ho
 obtain ⟨o1,o2,o3,o4,o5,o6,k,hk,e,hbk⟩:=ho
 have hsz:=(zam h1).1
 obtain ⟨f1,f2⟩:=zci (ws:=ws) (a:=(a:Int)) hsz (by
   simp only[ze0,Bool.or_eq_false_iff,decide_eq_false_iff_not,bne_eq_false_iff_eq];omega) (l:=(zab ws).drop k) (by rw[Int.toNat_natCast];exact hbk)
 have hfo:=zh4 (ws:=ws) (b:=bkAt ws a) o5
 rw[o6] at hfo
 have hfo:=hfo.symm
 simp only[Bool.and_eq_true,beq_iff_eq] at hfo
 have hst:=zav o4
 have hcast:(((zaf (wd ws a)).typ.toNat:Nat):Int)=(zaf (wd ws a)).typ:=by
   show ((((wd ws a / 512 % 128:Nat):Int).toNat:Nat):Int)=_
   rw[Int.toNat_natCast];rfl
 refine ⟨f1,?_,o5,⟨(zaf (wd ws a)).typ.toNat,hcast.symm,hty,hfo.1,rfl⟩,?_⟩
 · rw[f2]
   refine ⟨by rw[List.length_drop];omega,?_⟩
   rw[List.getElem_drop]
   exact e
 · have h7:=hfo.2
   rw[zba] at h7
   have h8:(flds ws a).length=(zbd (wd ws (tyA (bkAt ws a))) (wd ws (tyA (bkAt ws a)+1))).length:=rfl
   unfold za8 at h7
   omega
end Go.Proofs.YtpcajamacpbjcaaGreat
namespace Go.Proofs.YtpcajamacpbjcaaGreat
open Go.RowKit
theorem zD8 {ws:List Nat} {m:List (Int × Int)}:∀ k,(∀ i,i<k→∃ o,zig ws m i=some o)→∃ o,zen ws m k=some o∧((∀ i,i<k→zig ws m i=some [])→o=[]):=by
 intro k
 induction k with
 | zero=>intro _;exact ⟨[],rfl,fun _=>rfl⟩
 | succ k ih =>
  intro h
  obtain ⟨o,ho,hn⟩:=ih (fun i hi=>h i (by omega))
  obtain ⟨x,hx⟩:=h k (by omega)
  refine ⟨o++x,by simp only[zen,ho,hx,Option.map_some],fun h2 => ?_⟩
  have h3:=h2 k (by omega)
  rw[hx] at h3
  injection h3 with h3
  rw[h3,hn (fun i hi=>h2 i (by omega)),List.append_nil]
theorem zz2 {ws:List Nat} {m:List (Int × Int)}:∀ R:List Int,(∀ r ∈ R,∃ o,zfk ws m r.toNat=some o)→∃ o,zdh ws m R=some o∧((∀ r ∈ R,zfk ws m r.toNat=some [])→o=[]):=by
 intro R
 induction R with
 | nil=>intro _;exact ⟨[],rfl,fun _=>rfl⟩
 | cons r R ih =>
  intro h
  obtain ⟨o,ho,hn⟩:=ih (fun i hi=>h i (by simp[hi]))
  obtain ⟨x,hx⟩:=h r (by simp)
  refine ⟨x++o,by simp only[zdh,ho,hx,Option.map_some],fun h2 => ?_⟩
  have h3:=h2 r (by simp)
  rw[hx] at h3
  injection h3 with h3
  rw[h3,hn (fun i hi=>h2 i (by simp[hi])),List.append_nil]
theorem zzv:∀ {l:List Bk} {s:Int} {b:Bk},b ∈ l→zax b=true→∃ t,ze2 (zal l s) b.at_=some t:=by
 intro l
 induction l with
 | nil=>intro s b h;simp at h
 | cons x l ih =>
  intro s b h hb
  simp only[zal]
  by_cases hx:zax x=true
  · rw[if_pos hx]
    simp only[ze2]
    by_cases e:x.at_=b.at_
    · exact ⟨s,by rw[if_pos e]⟩
    · rw[if_neg e]
      rcases List.mem_cons.1 h with rfl|h
      · exact absurd rfl e
      · exact ih h hb
  · rw[if_neg hx]
    rcases List.mem_cons.1 h with rfl|h
    · exact absurd hb hx
    · exact ih h hb
theorem zzf:∀ {l:List Bk} {s:Int} {m:Int × Int},m ∈ zal l s→∃ b ∈ l,zax b=true∧b.at_=m.1:=by
 intro l
 induction l with
 | nil=>intro s m h;simp[zal] at h
 | cons x l ih =>
  intro s m h
  simp only[zal] at h
  split at h
  · rename_i hx
    rcases List.mem_cons.1 h with rfl|h
    · exact ⟨x,by simp,hx,rfl⟩
    · obtain ⟨b,h1,h2⟩:=ih h
      exact ⟨b,by simp[h1],h2⟩
  · obtain ⟨b,h1,h2⟩:=ih h
    exact ⟨b,by simp[h1],h2⟩
theorem zAs:∀ {l:List Bk} {s:Int} {e:En},e ∈ za2 l s→∃ b ∈ l,b.kind=1∧e.a=b.at_+1:=by
 intro l
 induction l with
 | nil=>intro s e h;simp[za2] at h
 | cons x l ih =>
  intro s e h
  simp only[za2,List.mem_append] at h
  rcases h with h|h
  · split at h
    · rename_i hx
      rw[List.mem_singleton] at h
      subst h
      exact ⟨x,by simp,hx.1,rfl⟩
    · simp at h
  · obtain ⟨b,h1,h2⟩:=ih h
    exact ⟨b,by simp[h1],h2⟩
theorem zK7:∀ {l:List Bk} {s:Int} {b:Bk},b ∈ fwB l s→∃ b0 ∈ l,b.at_=b0.at_∧b.kind=b0.kind∧b.mark=b0.mark∧b.typ=b0.typ:=by
 intro l
 induction l with
 | nil=>intro s b h;simp[fwB] at h
 | cons x l ih =>
  intro s b h
  simp only[fwB] at h
  rcases List.mem_cons.1 h with rfl|h
  · refine ⟨x,by simp,?_⟩
    split <;> exact ⟨rfl,rfl,rfl,rfl⟩
  · obtain ⟨b0,h1,h2⟩:=ih h
    exact ⟨b0,by simp[h1],h2⟩
theorem zJk:∀ {l:List Bk} {s:Int} {b:Bk},b ∈ l→∃ b2 ∈ fwB l s,b2.at_=b.at_∧b2.kind=b.kind:=by
 intro l
 induction l with
 | nil=>intro s b h;simp at h
 | cons x l ih =>
  intro s b h
  simp only[fwB]
  rcases List.mem_cons.1 h with rfl|h
  · refine ⟨_,List.mem_cons_self ..,?_⟩
    split <;> exact ⟨rfl,rfl⟩
  · obtain ⟨b2,h1,h2⟩:=ih (s:=zeo x s) h
    exact ⟨b2,List.mem_cons_of_mem _ h1,h2⟩
theorem zmp {l:List Bk} {a:Int} {b:Bk} (h:b ∈ l) (h1:b.at_=a) (h2:b.kind=1):∃ b2,zkm l a=some b2:=by
 cases hq:zkm l a with
 | some b2=>exact ⟨b2,rfl⟩
 | none =>
  unfold zkm at hq
  rw[List.find?_eq_none] at hq
  exact absurd (by simp[h1,h2]) (hq b h)
theorem zp2 {l:List Bk} (h:l.Pairwise (fun a b=>a.at_<b.at_)) {a b:Bk} (ha:a ∈ l) (hb:b ∈ l) (e:a.at_=b.at_):a=b:=by
 obtain ⟨i,hi,rfl⟩:=List.getElem_of_mem ha
 obtain ⟨j,hj,rfl⟩:=List.getElem_of_mem hb
 rw[List.pairwise_iff_getElem] at h
 rcases Nat.lt_trichotomy i j with h1|h1|h1
 · have:=h i j hi hj h1;omega
 · subst h1;rfl
 · have:=h j i hj hi h1;omega
theorem zqo {w:Nat} (h:w<18446744073709551616):zn1 (zdj w)=w:=by
 unfold zn1 zdj
 dsimp only
 rw[Int.toNat_natCast,Int.toNat_natCast]
 by_cases hu:w / 9223372036854775808=1
 · rw[show (w / 9223372036854775808 == 1)=true by rw[beq_iff_eq];exact hu,if_pos rfl];omega
 · rw[show (w / 9223372036854775808 == 1)=false by rw[beq_eq_false_iff_ne];exact hu,if_neg (by decide)];omega
theorem zqx {ws:List Nat} (h:zae ws=0) {a:Nat} (ho:zep ws a) {i:Nat} (hi:i<(flds ws a).length) {b:Bk} (hb:b ∈ zab ws):b.at_+1≠((a+2+i:Nat):Int):=by
 obtain ⟨o1,o2,o3,o4,o5,o6,k,hk,e,hbk⟩:=ho
 have hfo:=zh4 (ws:=ws) (b:=bkAt ws a) o5
 rw[o6] at hfo
 have hfo:=hfo.symm
 simp only[Bool.and_eq_true,beq_iff_eq] at hfo
 have h7:=hfo.2
 rw[zba] at h7
 have h8:(flds ws a).length=(zbd (wd ws (tyA (bkAt ws a))) (wd ws (tyA (bkAt ws a)+1))).length:=rfl
 unfold za8 at h7
 obtain ⟨j,hj,rfl⟩:=List.getElem_of_mem hb
 rcases Nat.lt_or_ge k j with h1|h1
 · rw[zaz o3 o4] at hbk
   cases hq:blocks ws (a+szAt ws a) with
   | none=>rw[hq] at hbk;cases hbk
   | some l' =>
     rw[hq] at hbk
     simp only[Option.map_some,Option.some.injEq] at hbk
     have hd:l'=(zab ws).drop (k+1):=by
      have:=congrArg (List.drop 1) hbk
      rw[List.drop_drop] at this
      simpa using this
     have hm:(zab ws)[j] ∈ l':=by
      rw[hd]
      refine List.mem_iff_getElem.2 ⟨j - (k+1),by rw[List.length_drop];omega,?_⟩
      rw[List.getElem_drop]
      congr 1
      omega
     have:=(zko _ _ hq).1 _ hm
     omega
 · have hp:=(zb1 h).2
   rw[List.pairwise_iff_getElem] at hp
   have ha:(zab ws)[k].at_=(a:Int):=by rw[e,zaa]
   rcases Nat.lt_or_ge j k with h2|h2
   · have:=hp j k hj hk h2
     omega
   · have:j=k:=by omega
     subst this
     omega
theorem zuc {ws:List Nat} (h:zap ws=0) (ho:∀ x ∈ ws,x<18446744073709551616):∃ (x1 x2:List Nat) (M:List (Int × Int)),x1=zag ws (za4 ws)∧x2=zag x1 (za0 x1)∧zae x1=0∧zbi x2 128 128=0∧zhn x2 128 128=M∧zey x2=0∧(∀ m ∈ M,zdw x2 m.1=0) ∧
  ((∀ m ∈ M,m.1=m.2)→zec x2=[]∧∀ m ∈ M,zct x2 m.1=[]):=by
 obtain ⟨h1,h2,h3⟩:=zas h
 have hrm:=zAj h
 obtain ⟨g1,g2,g3,g4,g5⟩:=hrm.same h
 obtain ⟨x1,hx1⟩:∃ x1,x1=zag ws (za4 ws):=⟨_,rfl⟩
 rw[←hx1] at hrm g1 g2 g3 g4 g5
 obtain ⟨l,k1,k2,k3,k4,k5,k6,k7,-,-⟩:=zo2 g4
 have hwn:za0 x1=za2 l 128:=by unfold za0;rw[if_pos g4,k2]
 obtain ⟨x2,hx2⟩:∃ x2,x2=zag x1 (za2 l 128):=⟨_,rfl⟩
 rw[←hx2] at k4 k5 k6 k7
 have hll:l=(zab ws).map (mkB x1):=by rw[←k2,g5]
 have hinc:l.Pairwise (fun a b=>a.at_<b.at_):=by rw[hll];exact zC8 (zb1 h1).2
 have hbd:=zf5 ws (zam h1).1
 have hlen1:x1.length=ws.length:=hrm.len
 have hlen2:x2.length=ws.length:=by rw[hx2,zau,hlen1]
 have hlow:∀ p,p<128→wd x2 p=wd ws p:=by
  intro p hp
  rw[hx2,za9 _ _ _ (fun e he => ?_),hrm.low hp]
  have:=zp7 _ _ k1 128 e he
  omega
 have hfl:∀ {a i:Nat},Rch ws a→(flds ws a)[i]? = some 3→wd x2 (a+2+i)=wd ws (a+2+i):=by
  intro a i ha hi
  obtain ⟨hob,-⟩:=zhp h1 (h3 a ha)
  rw[hx2,za9 _ _ _ (fun e he => ?_),hrm.ref h3 h1 ha (h3 a ha) hi]
  obtain ⟨b,hb,-,e2⟩:=zAs he
  rw[e2]
  rw[hll] at hb
  obtain ⟨b0,hb0,rfl⟩:=List.mem_map.1 hb
  have hap:=zqx h1 hob (List.getElem?_eq_some_iff.1 hi).1 (b:=b0) hb0
  exact hap
 have hlive:∀ {a:Nat},Rch ws a→∃ t,ze2 (zal l 128) (a:Int)=some t:=by
  intro a ha
  obtain ⟨b,hb,e,hk,-⟩:=zqf h ha
  have hb2:mkB x1 b ∈ l:=by rw[hll];exact List.mem_map_of_mem hb
  have hm:(mkB x1 b).mark=true:=by
    rw[hx1,zka h hb,e]
    have hal:=zn4 (h3 a ha)
    exact (zem hal).2 ha
  obtain ⟨t,ht⟩:=zzv (s:=128) hb2 (by unfold zax;rw[hm,show (mkB x1 b).kind=1 from hk];rfl)
  refine ⟨t,?_⟩
  rw[show (mkB x1 b).at_=(a:Int) by show b.at_=_;rw[e,zaa]] at ht
  exact ht
 have hfix:∀ {a:Nat},Rch ws a→∃ t,zf0 (zal l 128) a=some t∧ze2 (zal l 128) (a:Int)=some t:=by
  intro a ha
  obtain ⟨t,ht⟩:=hlive ha
  have hal:=zn4 (h3 a ha)
  exact ⟨t,by unfold zf0;rw[if_neg (by omega)];exact ht,ht⟩
 have hfx:zc1 x2=0:=by unfold zc1;rw[if_pos k6,k4]
 have hmv:zeu x2=zal l 128:=by rw[(zd1 hfx).2.2,k5]
 have hsl:∀ i,i<16→slAt x2 i=slAt ws i:=fun i hi=>by unfold slAt;rw[hlow _ (by omega)]
 have hso:slsOk x2=true:=by
  rw[zb9]
  intro i hi
  rw[hsl i hi]
  exact (zb9 ws).1 h2 i hi
 have hst:∀ i,i<16→∃ o,zig x2 (zal l 128) i=some o∧((∀ m ∈ zal l 128,m.1=m.2)→o=[]):=by
  intro i hi
  unfold zig
  by_cases hu:(slAt x2 i).used=true
  · rw[if_pos hu]
    have hu2:=hu
    rw[hsl i hi] at hu2 ⊢
    obtain ⟨t,t1,t2⟩:=hfix (Rch.slot i hi hu2)
    rw[t1]
    dsimp only
    have hat:(((slAt ws i).at_.toNat:Nat):Int)=(slAt ws i).at_:=Int.toNat_of_nonneg (ze8 (wd ws (112+i))).2.2.1
    by_cases he:wd x2 (112+i)=zn1 ⟨(slAt ws i).gen,true,t⟩
    · rw[if_pos he];exact ⟨[],rfl,fun _=>rfl⟩
    · rw[if_neg he]
      refine ⟨_,rfl,fun hstill=>absurd ?_ he⟩
      have hte:=hstill _ (zqm t2)
      dsimp only at hte
      have h5:zn1 (slAt ws i)=wd ws (112+i):=zqo (ze6 ho _)
      rw[hlow _ (by omega),←h5]
      congr 1
      rw[←hte,hat]
      obtain ⟨y,hy⟩:∃ y,slAt ws i=y:=⟨_,rfl⟩
      rw[hy] at hu2 ⊢
      obtain ⟨yg,yu,ya⟩:=y
      dsimp only at hu2 ⊢
      rw[hu2]
  · rw[if_neg hu];exact ⟨[],rfl,fun _=>rfl⟩
 obtain ⟨o,ho1,ho2⟩:=zD8 (ws:=x2) (m:=zal l 128) 16 (fun i hi=>by obtain ⟨o,h4,-⟩:=hst i hi;exact ⟨o,h4⟩)
 have hfs:=zK6 hfx hso (o:=o) (by rw[hmv];exact ho1)
 have hob:∀ m ∈ zal l 128,zdw x2 m.1=0∧((∀ m ∈ zal l 128,m.1=m.2)→zct x2 m.1=[]):=by
  intro m hm
  obtain ⟨b,hb,hlv,hat⟩:=zzf hm
  unfold zax at hlv
  simp only[Bool.and_eq_true,beq_iff_eq] at hlv
  have hfr:za5 x2 128=fwB l 128:=by rw[(zfi k6).2.1,k7]
  obtain ⟨b2,hb2,e1,e2⟩:=zJk (s:=128) hb
  obtain ⟨b3,hb3⟩:=zmp (a:=m.1) hb2 (by rw[e1,hat]) (by rw[e2,hlv.1])
  obtain ⟨f1,f2,f3⟩:=zh7 hb3
  obtain ⟨b0,hb0,r1,r2,r3,r4⟩:=zK7 f1
  have hbe:b0=b:=zp2 hinc hb0 hb (by rw[←r1,f2,hat])
  subst hbe
  rw[hll] at hb0
  obtain ⟨bw,hbw,hbe⟩:=List.mem_map.1 hb0
  obtain ⟨a,ha,-,-,ha3,-⟩:=(zb1 h1).1 bw hbw
  have hra:Rch ws a:=by
    have:=zka h hbw
    rw[←hx1,hbe,hlv.2,ha] at this
    exact (zem ha3).1 this.symm
  have hat3:b3.at_=(a:Int):=by rw[r1,←hbe,ha];exact zaa ws a
  have hty:b3.typ=(zaf (wd ws a)).typ:=by rw[r4,←hbe,ha];rfl
  obtain ⟨hob,-⟩:=zhp h1 (h3 a hra)
  have hty8:=zkx hob
  have hfb:zxs x2 b3=flds ws a:=by
    unfold zxs flds tyA
    rw[hty,hlow _ (by omega),hlow _ (by omega)]
  have hrs:∀ r ∈ zfr x2 b3,∃ o,zfk x2 (zal l 128) r.toNat=some o∧((∀ m ∈ zal l 128,m.1=m.2)→o=[]):=by
    intro r hr
    unfold zfr at hr
    obtain ⟨i,-,hi,rfl⟩:=zke.1 hr
    rw[hfb] at hi
    have hn:(b3.at_+2+(i:Int)).toNat=a+2+i:=by rw[hat3];omega
    rw[hn]
    unfold zfk
    rw[hfl hra hi]
    by_cases hv:wd ws (a+2+i)=0
    · rw[if_pos hv];exact ⟨[],rfl,fun _=>rfl⟩
    · rw[if_neg hv]
      have hr:=(zJz h hra (r:=((a+2+i:Nat):Int)) (zr5.2 ⟨i,rfl,hi⟩)).2.2
      rw[Int.toNat_natCast] at hr
      obtain ⟨t,t1,t2⟩:=hfix (hr hv)
      rw[t1]
      dsimp only
      by_cases he:((wd ws (a+2+i):Nat):Int)=t
      · rw[if_pos he];exact ⟨[],rfl,fun _=>rfl⟩
      · rw[if_neg he]
        refine ⟨_,rfl,fun hstill=>absurd ?_ he⟩
        exact hstill _ (zqm t2)
  obtain ⟨q,hq1,hq2⟩:=zz2 (ws:=x2) (m:=zal l 128) (zfr x2 b3) (fun r hr=>by obtain ⟨o,h4,-⟩:=hrs r hr;exact ⟨o,h4⟩)
  have hok:=zDj hfx (a:=m.1) (b:=b3) (by rw[hfr];exact hb3) (by rw[r3];exact hlv.2) (o:=q) (by rw[hmv];exact hq1)
  refine ⟨hok.1,fun hstill => ?_⟩
  rw[hok.2]
  refine hq2 fun r hr => ?_
  obtain ⟨o,h4,h5⟩:=hrs r hr
  rw[h4,h5 hstill]
 refine ⟨x1,x2,zal l 128,hx1,by rw[hwn];exact hx2,g4,k4,k5,hfs.1,fun m hm=>(hob m hm).1,fun hstill=>⟨?_,fun m hm=>(hob m hm).2 hstill⟩⟩
 rw[hfs.2]
 refine ho2 fun i hi => ?_
 obtain ⟨o',h4,h5⟩:=hst i hi
 rw[h4,h5 hstill]
end Go.Proofs.YtpcajamacpbjcaaGreat
namespace Go.Proofs.YtpcajamacpbjcaaGreat
open Go.RowKit
structure NxL (ws xs:List Nat):Prop where
 len:xs.length=ws.length
 at_:∀ i:Nat,19≤i→wd xs i=wd ws i∨∃ b ∈ zab ws,(i:Int)=b.at_+1
theorem zI6 {xs:List Nat} (n:Nat) (l:List Bk):zqs n (l.map (nxB xs))=zqs n l:=by
 unfold zqs
 rw[List.foldl_map]
 rfl
section
variable {ws xs:List Nat}
theorem NxL.low (h:NxL ws xs) (h0:zae ws=0) {i:Nat} (h19:19≤i) (hi:i<128):wd xs i=wd ws i:=by
 rcases h.at_ i h19 with h1|⟨b,hb,h1⟩
 · exact h1
 · obtain ⟨a,rfl,a1,-⟩:=(zb1 h0).1 b hb
   rw[zaa] at h1
   omega
theorem NxL.even (h:NxL ws xs) (h0:zae ws=0) {i:Nat} (h19:19≤i) (hi:i % 2=0):wd xs i=wd ws i:=by
 rcases h.at_ i h19 with h1|⟨b,hb,h1⟩
 · exact h1
 · obtain ⟨a,rfl,-,a1,-⟩:=(zb1 h0).1 b hb
   rw[zaa] at h1
   omega
theorem NxL.ev (h:NxL ws xs) (h0:zae ws=0):Ev ws xs:=by
 refine ⟨h.len,fun i hi => ?_⟩
 rcases hi with ⟨h1,h2⟩|⟨h1,h2⟩
 · exact h.even h0 (by omega) h1
 · exact h.low h0 (by omega) h2
theorem NxL.tb (h:NxL ws xs) (h0:zae ws=0) (a:Nat):tb xs a=tb ws a:=by
 unfold Proofs.YtpcajamacpbjcaaGreat.tb
 rw[((h.ev h0).heap h0).2,h.len,zI6]
theorem NxL.slAt (h:NxL ws xs) (h0:zae ws=0) {i:Nat} (hi:i<16):slAt xs i=slAt ws i:=by
 unfold Proofs.YtpcajamacpbjcaaGreat.slAt
 rw[h.low h0 (by omega) (by omega)]
theorem NxL.slsOk (h:NxL ws xs) (h0:zae ws=0):slsOk xs=slsOk ws:=by
 rw[Bool.eq_iff_iff,zb9,zb9]
 unfold znx
 constructor
 · intro h1 i hi;rw[←h.slAt h0 hi];exact h1 i hi
 · intro h1 i hi;rw[h.slAt h0 hi];exact h1 i hi
theorem NxL.flds (h:NxL ws xs) (h0:zae ws=0) {a:Nat} (ha:Proofs.YtpcajamacpbjcaaGreat.tb ws a≠0):flds xs a=flds ws a:=by
 obtain ⟨ho,-⟩:=zhp h0 ha
 have:=zkx ho
 have h19:=ho.1
 have h2:=ho.2.1
 unfold Proofs.YtpcajamacpbjcaaGreat.flds
 rw[h.even h0 (by omega) h2,h.low h0 (by omega) (by omega),h.low h0 (by omega) (by omega)]
theorem NxL.ref (h:NxL ws xs) (h0:zae ws=0) {a i:Nat} (ht:Proofs.YtpcajamacpbjcaaGreat.tb ws a≠0) (hf:(Proofs.YtpcajamacpbjcaaGreat.flds ws a)[i]? = some 3):wd xs (a+2+i)=wd ws (a+2+i):=by
 have hob:=(zhp h0 ht).1
 have h19:=hob.1
 rcases h.at_ (a+2+i) (by omega) with h1|⟨b,hb,h1⟩
 · exact h1
 · exact absurd h1.symm (zqx h0 hob (List.getElem?_eq_some_iff.1 hf).1 hb)
theorem NxL.rch (h:NxL ws xs) (h0:zae ws=0) (a:Nat):Rch xs a↔Rch ws a:=by
 constructor
 · intro ha
   induction ha with
   | slot i hi hu=>rw[h.slAt h0 hi] at hu ⊢;exact Rch.slot i hi hu
   | ref a i ha ht hf hv ih =>
    rw[h.tb h0] at ht
    rw[h.flds h0 ht] at hf
    rw[h.ref h0 ht hf] at hv ⊢
    exact Rch.ref a i ih ht hf hv
 · intro ha
   induction ha with
   | slot i hi hu=>rw[←h.slAt h0 hi] at hu ⊢;exact Rch.slot i hi hu
   | ref a i ha ht hf hv ih =>
    rw[←h.ref h0 ht hf] at hv ⊢
    exact Rch.ref a i ih (by rw[h.tb h0];exact ht) (by rw[h.flds h0 ht];exact hf) hv
theorem NxL.same (h:NxL ws xs) (h0:zae ws=0):zae xs=0∧zap xs=zap ws∧za3 xs=za3 ws:=by
 have hr:=h.rch h0
 have hh:=(h.ev h0).heap h0
 have hg:zst xs↔zst ws:=by
   constructor
   · intro h1 a ha;rw[←h.tb h0];exact h1 a ((hr a).2 ha)
   · intro h1 a ha;rw[h.tb h0];exact h1 a ((hr a).1 ha)
 have he:zap xs=zap ws:=by
   unfold zap
   rw[if_pos hh.1,if_pos h0,h.slsOk h0,propext hg]
 refine ⟨hh.1,he,?_⟩
 have hs:seenL xs=seenL ws:=by
   unfold seenL
   rw[h.len]
   refine List.map_congr_left fun a _ => ?_
   exact decide_eq_decide.2 (hr a)
 by_cases hz:zap ws=0
 · rw[zde (by rw[he];exact hz),zde hz,hs,h.len]
 · rw[zpf (by rw[he];exact hz),zpf hz]
end
theorem zqg {x:List Nat} {E:List En} (hE:∀ e ∈ E,e.a<19∨∃ b ∈ zab x,e.a=b.at_+1):NxL x (zag x E):=by
 refine ⟨zau _ _,fun i h19 => ?_⟩
 by_cases hx:∃ b ∈ zab x,(i:Int)=b.at_+1
 · exact .inr hx
 · refine .inl (za9 _ _ _ fun e he h2 => ?_)
   rcases hE e he with h3|⟨b,hb,h3⟩
   · omega
   · exact hx ⟨b,hb,by rw[←h3,h2]⟩
theorem zuw {x:List Nat} (p2:wd x 16=2) (h:(zac x).1=0):zae (zag x (zac x).2)=0∧zap (zag x (zac x).2)=zap x∧za3 (zag x (zac x).2)=za3 x:=by
 obtain ⟨hhp,e⟩:=zz0 p2 h
 rw[e]
 dsimp only
 have hw:∀ e ∈ za0 x,∃ b ∈ zab x,e.a=b.at_+1:=by
   intro e he
   rw[zrv hhp] at he
   obtain ⟨b,hb,-,h3⟩:=zfq he
   exact ⟨b,hb,h3⟩
 refine (zqg fun e he => ?_).same hhp
 by_cases h32:32≤(za0 x).length
 · rw[zcd h32] at he
   exact .inr (hw e (List.mem_of_mem_take he))
 · rw[zhh h32] at he
   rcases List.mem_cons.1 he with rfl|he
   · exact .inl (by dsimp only;omega)
   · exact .inr (hw e he)
end Go.Proofs.YtpcajamacpbjcaaGreat
