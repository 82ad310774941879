/- Texts laid together: FinP RsP RsQ RsE RsPh. -/
import Derived.Test.YtpcajamacpbjcaaGreatZKStg1
import Derived.Test.YtpcajamacpbjcaaGreatZKImage
import Derived.Test.YtpcajamacpbjcaaGreatZKStg3
import Derived.Test.YtpcajamacpbjcaaGreatZKStg2
namespace Go.Proofs.YtpcajamacpbjcaaGreat
def zew (ws:List Nat):Int:=if zao ws=0 then (if wd ws 16=4∧lfN ws=0 then 0 else 6) else zao ws
def zfa (ws:List Nat):Nat:=if zew ws=0 then wd ws 18 else 0
theorem zG4 {ws:List Nat} {r:Int} (h:zao ws=r) (h0:r≠0):zew ws=r:=by subst h;simp[zew,h0]
theorem zGt {ws:List Nat} (h:zao ws=0) (h2:¬ (wd ws 16=4∧lfN ws=0)):zew ws=6:=by
 unfold zew
 rw[if_pos h,if_neg h2]
theorem zEl {ws:List Nat} (h:zao ws=0) (h2:wd ws 16=4) (h3:lfN ws=0):zew ws=0∧zfa ws=wd ws 18:=by simp[zfa,zew,h,h2,h3]
theorem zxz {ws:List Nat} (h:zew ws=0):zao ws=0∧wd ws 16=4∧lfN ws=0:=by
 unfold zew at h
 split at h
 · split at h
   · rename_i h1 h2;exact ⟨h1,h2⟩
   · simp at h
 · rename_i h1;exact absurd h h1
theorem zg9 {ws:List Nat} (h:zew ws=0):zah (ws.length:Int)=true∧zcx ws=0∧zh5 ws=true∧wd ws 16=4∧zkp (wd ws 18)=true∧wd ws 18≤ws.length∧mvd ws 128 (wd ws 18)=true∧zfa ws=wd ws 18:=by
 obtain ⟨h1,h2,h3⟩:=zxz h
 have h4:=zjw h1
 obtain ⟨h5,-⟩:=zgz h4
 obtain ⟨hs,h6,h7⟩:=zfs h5
 obtain ⟨⟨l0,l1,l2⟩,-⟩:=(zbn ws).1 h6
 rcases (zcp _ _ _).1 h7 with ⟨-,i1,i2,i3⟩|⟨p3,-⟩|⟨p0,-⟩
 · refine ⟨hs,h4,h6,h2,i2,l2,?_,by simp[zfa,h]⟩
   unfold zao at h1
   rw[if_pos h4,if_pos h2] at h1
   split at h1
   · assumption
   · simp at h1
 · omega
 · omega
def zdx (ws:List Nat):List En:=if zew ws=0 then phE 0 0 0++(if zfa ws=ws.length then [] else [⟨(zfa ws:Int),zcg (zc3 (ws.length - zfa ws))⟩,⟨((zfa ws+1:Nat):Int),0⟩]) else []
theorem zB9 {n:Nat} (h2:2≤n) (he:n % 2=0) (h:n≤1920):zhs (zc3 n)=true:=by
 rw[zbo]
 exact ⟨⟨by show (2:Int)≤(n:Int);omega,by show (n:Int) % 2=0;omega⟩,.inr ⟨rfl,rfl,rfl,by show (n:Int)≤1920;omega⟩⟩
theorem zs1 {ws:List Nat} (h:zew ws=0) (hne:zfa ws≠ws.length):zhs (zc3 (ws.length - zfa ws))=true:=by
 obtain ⟨hs,-,-,-,h5,h6,-,h8⟩:=zg9 h
 have hb:=(zad _).1 hs
 have hi:=(za7 _).1 h5
 rw[h8] at hne ⊢
 exact zB9 (by omega) (by omega) (by omega)
def zu2:List Bk→Int→Int
 | [],s=>s
 | b :: l,s=>zu2 l (s+b.size)
theorem zF1 {ws:List Nat} {t:Nat}:∀ n i,t - i≤n→mvd ws i t=true→∃ os:List Bk,(∀ b ∈ os,b.kind=1∧b.mark=false∧zc2 ws b=true∧2≤b.size∧b.size≤10∧0≤b.typ∧b.typ<8)∧zu2 os i=(t:Int)∧os.length≤t - i ∧
  ∀ xs l,(∀ j,i≤j→j<t→wd xs j=wd ws j)→t≤xs.length→blocks xs t=some l→blocks xs i=some (os++l):=by
 intro n
 induction n with
 | zero =>
  intro i h hm
  rw[zjg (by omega),beq_iff_eq] at hm
  subst hm
  exact ⟨[],(fun b hb=>by cases hb),rfl,Nat.zero_le _,fun xs l _ _ hl=>hl⟩
 | succ n ih =>
  intro i h hm
  by_cases hi:t≤i
  · rw[zjg hi,beq_iff_eq] at hm
    subst hm
    exact ⟨[],(fun b hb=>by cases hb),rfl,Nat.zero_le _,fun xs l _ _ hl=>hl⟩
  · cases hmd:zpy ws i with
    | false=>rw[zs5 (by omega) hmd] at hm;cases hm
    | true =>
     rw[zjs (by omega) hmd] at hm
     have hsz:=zkv hmd
     have hle:i+szAt ws i≤t:=by
       rcases Nat.lt_or_ge t (i+szAt ws i) with h1|h1
       · rw[zjg (by omega),beq_iff_eq] at hm;omega
       · exact h1
     obtain ⟨os,o1,o2,o3,o4⟩:=ih (i+szAt ws i) (by omega) hm
     unfold zpy at hmd
     simp only[Bool.and_eq_true,beq_iff_eq,Bool.not_eq_true'] at hmd
     obtain ⟨hsp,hk,hmk,hty⟩:=hmd
     have hhd:=(zbo _).1 (show zhs (zaf (wd ws i))=true by unfold zar at hsp;simp only[Bool.and_eq_true] at hsp;exact hsp.1)
     refine ⟨bkAt ws i :: os,fun b hb => ?_,?_,by rw[List.length_cons];omega,fun xs l hw hxl hl => ?_⟩
     · rcases List.mem_cons.1 hb with rfl|hb
       · have e:(bkAt ws i).size=((szAt ws i:Nat):Int):=rfl
         have e2:(bkAt ws i).typ=(zaf (wd ws i)).typ:=rfl
         refine ⟨hk,hmk,?_,by omega,by omega,by omega,by omega⟩
         unfold zc2 at hty ⊢
         exact hty
       · exact o1 b hb
     · show zu2 os (i+(szAt ws i:Nat))=_
       rw[←o2]
       congr 1
     · have ex:wd xs i=wd ws i:=hw i (Nat.le_refl _) (by omega)
       have ex1:wd xs (i+1)=wd ws (i+1):=hw (i+1) (by omega) (by omega)
       have e1:szAt xs i=szAt ws i:=by unfold szAt;rw[ex]
       have e2:bkAt xs i=bkAt ws i:=by unfold bkAt;rw[ex,ex1]
       have hst:stands xs i=true:=by
         unfold stands
         rw[ex,hsp,Bool.true_and,decide_eq_true_eq]
         have:(zaf (wd ws i)).size=((szAt ws i:Nat):Int):=rfl
         omega
       rw[zaz (by omega) hst,e1,e2,o4 xs l (fun j h1 h2=>hw j (by omega) h2) hxl hl]
       rfl
theorem zAa {ws:List Nat} (h:zew ws=0):∀ j,wd (zag ws (zdx ws)) j=if j=16∨j=17∨j=18 then 0 else if zfa ws<ws.length∧j=zfa ws then zcg (zc3 (ws.length - zfa ws)) else if zfa ws<ws.length∧j=zfa ws+1 then 0 else wd ws j:=by
 obtain ⟨hs,-,-,-,h5,h6,-,h8⟩:=zg9 h
 have hb:=(zad _).1 hs
 have hi:=(za7 _).1 h5
 rw[←h8] at hi h6
 intro j
 have hw3:∀ j,wd (zag ws (phE 0 0 0)) j=if j=16∨j=17∨j=18 then 0 else wd ws j:=by
   intro j
   unfold phE
   rw[show (16:Int)=((16:Nat):Int) from rfl,show (17:Int)=((17:Nat):Int) from rfl,show (18:Int)=((18:Nat):Int) from rfl]
   rw[zfh 16 _ _ (by omega),zfh 17 _ _ (by rw[List.length_set];omega),zfh 18 _ _ (by rw[List.length_set,List.length_set];omega)]
   show wd (((ws.set 16 0).set 17 0).set 18 0) j=_
   rw[zlr,zlr,zlr]
   simp only[List.length_set]
   by_cases h18:j=18
   · subst h18;rw[if_pos ⟨rfl,by omega⟩,if_pos (by omega)]
   · rw[if_neg (by omega)]
     by_cases h17:j=17
     · subst h17;rw[if_pos ⟨rfl,by omega⟩,if_pos (by omega)]
     · rw[if_neg (by omega)]
       by_cases h16:j=16
       · subst h16;rw[if_pos ⟨rfl,by omega⟩,if_pos (by omega)]
       · rw[if_neg (by omega),if_neg (by omega)]
 have hch:zdx ws=phE 0 0 0++(if zfa ws=ws.length then [] else [⟨(zfa ws:Int),zcg (zc3 (ws.length - zfa ws))⟩,⟨((zfa ws+1:Nat):Int),0⟩]):=by simp[zdx,h]
 rw[hch,zea]
 have hl3:(zag ws (phE 0 0 0)).length=ws.length:=zau _ _
 by_cases hne:zfa ws=ws.length
 · rw[if_pos hne]
   show wd (zag ws (phE 0 0 0)) j=_
   rw[hw3]
   by_cases hq:j=16∨j=17∨j=18
   · rw[if_pos hq,if_pos hq]
   · rw[if_neg hq,if_neg hq,if_neg (fun h=>absurd h.1 (by omega)),if_neg (fun h=>absurd h.1 (by omega))]
 · rw[if_neg hne,zfh _ _ _ (by rw[hl3];omega),zfh _ _ _ (by rw[List.length_set,hl3];omega)]
   show wd (((zag ws (phE 0 0 0)).set _ _).set _ _) j=_
   rw[zlr,zlr,hw3,List.length_set,hl3]
   by_cases h1:j=zfa ws+1
   · subst h1
     rw[if_pos ⟨rfl,by omega⟩,if_neg (by omega),if_neg (by omega),if_pos ⟨by omega,rfl⟩]
   · rw[if_neg (by omega)]
     by_cases h2:j=zfa ws
     · subst h2
       rw[if_pos ⟨rfl,by omega⟩,if_neg (by omega),if_pos ⟨by omega,rfl⟩]
     · rw[if_neg (by omega)]
       by_cases hq:j=16∨j=17∨j=18
       · rw[if_pos hq,if_pos hq]
       · rw[if_neg hq,if_neg hq,if_neg (fun h=>h2 h.2),if_neg (fun h=>h1 h.2)]
def zGz (ws:List Nat):List Bk:=if zfa ws=ws.length then [] else [{ zc3 (ws.length - zfa ws) with at_:=(zfa ws:Int) }]
theorem zDp {ws:List Nat} (h:zew ws=0):∃ os:List Bk,(∀ b ∈ os,b.kind=1∧b.mark=false∧2≤b.size∧b.size≤10)∧zu2 os 128=(zfa ws:Int)∧os.length≤2048∧zae (zag ws (zdx ws))=0 ∧
   zab (zag ws (zdx ws))=os++zGz ws∧blocks (zag ws (zdx ws)) 128=some (os++zGz ws)∧zcx (zag ws (zdx ws))=0∧lnV (zag ws (zdx ws))=phV 0 0 0∧zd8 (os++zGz ws)=[]∧(zag ws (zdx ws)).length=ws.length:=by
 obtain ⟨hs,-,hlw,-,h5,h6,hmv,h8⟩:=zg9 h
 have hb:=(zad _).1 hs
 have hi:=(za7 _).1 h5
 have hput:=zAa h
 have hxl:(zag ws (zdx ws)).length=ws.length:=zau _ _
 have hfh:=zs1 h
 rw[←h8] at h6 hi hmv
 obtain ⟨os,o1,o2,o3,o4⟩:=zF1 _ 128 (Nat.le_refl _) hmv
 generalize zag ws (zdx ws)=x at hput hxl ⊢
 have hbt:blocks x (zfa ws)=some (zGz ws):=by
   unfold zGz
   by_cases hne:zfa ws=ws.length
   · rw[if_pos hne,zaq (by omega)]
   · rw[if_neg hne]
     have hfr:=hfh hne
     have e0:wd x (zfa ws)=zcg (zc3 (ws.length - zfa ws)):=by
       rw[hput,if_neg (by omega),if_pos ⟨by omega,rfl⟩]
     have e1:wd x (zfa ws+1)=0:=by
       rw[hput,if_neg (by omega),if_neg (fun h=>absurd h.2 (by omega)),if_pos ⟨by omega,rfl⟩]
     have hraw:=ziu hfr
     have hsz:szAt x (zfa ws)=ws.length - zfa ws:=by
       have e2:(zaf (wd x (zfa ws))).size=((szAt x (zfa ws):Nat):Int):=rfl
       rw[e0,hraw] at e2
       have e3:(zc3 (ws.length - zfa ws)).size=((ws.length - zfa ws:Nat):Int):=rfl
       dsimp only at e2
       omega
     have hst:stands x (zfa ws)=true:=by
       unfold stands
       rw[e0,ziq hfr,Bool.true_and,decide_eq_true_eq,hraw]
       show ((ws.length - zfa ws:Nat):Int)≤_
       omega
     rw[zaz (by omega) hst,hsz,zaq (by omega)]
     have hbk:bkAt x (zfa ws)={ zc3 (ws.length - zfa ws) with at_:=(zfa ws:Int) }:=by
       unfold bkAt
       rw[e0,hraw,e1];rfl
     rw[hbk];rfl
 have hb128:=o4 x (zGz ws) (fun j h1 h2=>by rw[hput,if_neg (by omega),if_neg (fun h=>absurd h.2 (by omega)),if_neg (fun h=>absurd h.2 (by omega))]) (by omega) hbt
 have hfit:(os++zGz ws).all (zds x)=true:=by
   rw[List.all_eq_true]
   intro b hbm
   rcases List.mem_append.1 hbm with hbm|hbm
   · obtain ⟨g1,g2,g3,g4,g5,g6,g7⟩:=o1 b hbm
     unfold zds zc2
     unfold zc2 at g3
     have hty:tyA b+1<128:=by unfold tyA;omega
     rw[hput (tyA b),hput (tyA b+1)]
     have hty2:96≤tyA b:=by unfold tyA;omega
     rw[if_neg (by omega),if_neg (fun h=>absurd h.2 (by omega)),if_neg (fun h=>absurd h.2 (by omega)),if_neg (by omega),if_neg (fun h=>absurd h.2 (by omega)),if_neg (fun h=>absurd h.2 (by omega)),g3,Bool.or_true]
   · unfold zGz at hbm
     split at hbm
     · cases hbm
     · rw[List.mem_singleton] at hbm
       subst hbm
       rfl
 obtain ⟨p1,p2⟩:=ze7 (by rw[hxl];exact hs) hb128 hfit
 obtain ⟨-,w19,w20,w21,w22,w23⟩:=(zbn ws).1 hlw
 have hx:∀ j,j<24→(j=16∨j=17∨j=18)∧wd x j=0∨wd x j=wd ws j:=by
   intro j hj
   rw[hput]
   by_cases hq:j=16∨j=17∨j=18
   · left;exact ⟨hq,by rw[if_pos hq]⟩
   · right;rw[if_neg hq,if_neg (fun h=>absurd h.2 (by omega)),if_neg (fun h=>absurd h.2 (by omega))]
 have x16:wd x 16=0:=by rw[hput,if_pos (by omega)]
 have x17:wd x 17=0:=by rw[hput,if_pos (by omega)]
 have x18:wd x 18=0:=by rw[hput,if_pos (by omega)]
 have x19:wd x 19=0:=by rcases hx 19 (by omega) with h|h;exact h.2;rw[h];exact w19
 have x20:wd x 20=0:=by rcases hx 20 (by omega) with h|h;exact h.2;rw[h];exact w20
 have x21:wd x 21=0:=by rcases hx 21 (by omega) with h|h;exact h.2;rw[h];exact w21
 have x22:wd x 22=0:=by rcases hx 22 (by omega) with h|h;exact h.2;rw[h];exact w22
 have x23:wd x 23=0:=by rcases hx 23 (by omega) with h|h;exact h.2;rw[h];exact w23
 have hlx:zh5 x=true:=by rw[zbn,x16,x17,x18];exact ⟨⟨by omega,by omega,by omega⟩,x19,x20,x21,x22,x23⟩
 have hpr:=(zl5 (ws:=x) (by rw[hxl];exact hs) (by rw[hlx,x16,x17,x18];rfl)).1
 have hln:zcx x=0:=by
   unfold zcx
   rw[if_pos hpr,if_neg (by rw[x16];omega)]
 refine ⟨os,fun b hbm => ?_,o2,by omega,p1,p2,hb128,hln,by simp[lnV,hln,x16,x17,x18],?_,hxl⟩
 · obtain ⟨g1,g2,g3,g4,g5,g6,g7⟩:=o1 b hbm
   exact ⟨g1,g2,g4,g5⟩
 · unfold zd8
   rw[List.map_eq_nil_iff,List.filter_eq_nil_iff]
   intro b hbm
   rcases List.mem_append.1 hbm with hbm|hbm
   · rw[(o1 b hbm).2.1];simp
   · unfold zGz at hbm
     split at hbm
     · cases hbm
     · rw[List.mem_singleton] at hbm
       subst hbm
       simp[zc3]
end Go.Proofs.YtpcajamacpbjcaaGreat
namespace Go.Proofs.YtpcajamacpbjcaaGreat
open Go.RowKit
noncomputable def zc8 (x:List Nat):Int × Bool × List En:=if (zac x).1=6 then (if wd x 16=0 then (0,true,[]) else (zew x,false,zdx x)) else ((zac x).1,false,(zac x).2)
theorem zss (ws:List Nat) (f s:Int):zbi ws f s≠6:=by
 unfold zbi zk2
 split
 · split
   · decide
   · split
     · decide
     · split <;> decide
 · decide
theorem zAb (x:List Nat):zao x≠6:=by
 unfold zao
 split
 · split
   · split
     · exact zss _ _ _
     · decide
   · split
     · exact zss _ _ _
     · rcases zEe x with h|h|h <;> rw[h] <;> decide
 · rcases zzm x with h|h|h <;> rw[h] <;> decide
theorem zH6 {x:List Nat} (h:(zac x).1=6):zao x=0:=by
 by_cases h0:zao x=0
 · exact h0
 · unfold zac at h
   rw[if_neg h0] at h
   exact absurd h (zAb x)
theorem rs_ck {x:List Nat} (h:(zc8 x).1=0):zao x=0:=by
 by_cases h6:(zac x).1=6
 · exact zH6 h6
 · unfold zc8 at h
   rw[if_neg h6] at h
   by_cases h0:zao x=0
   · exact h0
   · unfold zac at h
     rw[if_neg h0] at h
     exact absurd h h0
theorem ztm (x:List Nat) (h:zae x=0):2 * (zab x).length+128≤x.length:=by
 obtain ⟨h1,l,h2,-,h4⟩:=zam h
 have hb:=(zad _).1 h1
 rw[h4]
 exact (zbs (by omega) _ _ h2 (by omega) (by omega) (by omega)).1
theorem zw1 {α:Type} {p q:α→Bool}:∀ {l:List α},(∀ b ∈ l,q b=true→p b=true)→∀ {b1 b2:α},b1 ∈ l→b2 ∈ l→b1≠b2→p b1=true→q b1=false→p b2=true→q b2=false→(l.filter q).length+2≤(l.filter p).length:=by
 intro l
 induction l with
 | nil=>intro _ b1 b2 h;exact absurd h (by simp)
 | cons c l ih =>
  intro h b1 b2 m1 m2 hne p1 q1 p2 q2
  have hl:=fun x hx=>h x (List.mem_cons_of_mem _ hx)
  rw[List.filter_cons,List.filter_cons]
  rcases List.mem_cons.1 m1 with rfl|n1
  · rw[p1,q1]
    have m2':b2 ∈ l:=by
      rcases List.mem_cons.1 m2 with e|n2
      · exact absurd e.symm hne
      · exact n2
    have:=(zms hl).2 ⟨b2,m2',p2,q2⟩
    simp only[if_true,if_false,Bool.false_eq_true,List.length_cons];omega
  · rcases List.mem_cons.1 m2 with rfl|n2
    · rw[p2,q2]
      have:=(zms hl).2 ⟨b1,n1,p1,q1⟩
      simp only[if_true,if_false,Bool.false_eq_true,List.length_cons];omega
    · have:=ih hl n1 n2 hne p1 q1 p2 q2
      have hc:=h c (by simp)
      cases hq:q c with
      | true=>rw[hc hq];simp only[if_true,List.length_cons];omega
      | false=>cases hp:p c <;> simp only[if_true,if_false,Bool.false_eq_true,List.length_cons] <;> omega
theorem zBr {l:List Bk} (h:l.Pairwise (fun a b=>a.at_<b.at_)) {a b:Bk} (ha:a ∈ l) (hb:b ∈ l) (e:a.at_=b.at_):a=b:=by
 obtain ⟨i,hi,rfl⟩:=List.getElem_of_mem ha
 obtain ⟨j,hj,rfl⟩:=List.getElem_of_mem hb
 rw[List.pairwise_iff_getElem] at h
 rcases Nat.lt_trichotomy i j with h1|h1|h1
 · have:=h i j hi hj h1;omega
 · subst h1;rfl
 · have:=h j i hj hi h1;omega
theorem zB7 {ws:List Nat} (h:zap ws=0) (h32:32≤(za4 ws).length):(za4 (zag ws ((za4 ws).take 31))).length+2≤(za4 ws).length:=by
 have hsub:((za4 ws).take 31).Sublist (za4 ws):=List.take_sublist _ _
 have hinc:((za4 ws).take 31).Pairwise (fun a b=>a.a<b.a):=(zdq h).sublist hsub
 obtain ⟨g1,g2,g3,g4,g5⟩:=(zg4 h hsub).same h
 rw[zdz g1,g3,g5,List.length_map,zdz h,List.length_map]
 rw[←zdz h]
 obtain ⟨x,hx⟩:∃ x,zag ws ((za4 ws).take 31)=x:=⟨_,rfl⟩
 rw[hx]
 unfold zk5
 rw[List.filter_map,List.length_map]
 have hrow:=zb1 (zas h).1
 have hmk:∀ b ∈ zab ws,(∀ e ∈ (za4 ws).take 31,e.a≠b.at_)→(mkB x b).mark=b.mark:=by
  intro b hb hno
  obtain ⟨a,rfl,a1,a2,a3,a4⟩:=hrow.1 b hb
  show zrh x (bkAt ws a).at_.toNat=_
  rw[zaa,Int.toNat_natCast]
  unfold zrh
  rw[←hx,za9 _ _ _ (fun e he=>by have:=hno e he;rwa [zaa] at this)]
  rfl
 have hone:∀ i,i<31→∃ b ∈ zab ws,b.at_=((za4 ws)[i]?.map En.a).getD 0∧(!zee (seenL ws) b)=true∧(!(zee (seenL ws) (mkB x b)))=false:=by
  intro i hi
  have hpos:i<((za4 ws).take 31).length:=by rw[List.length_take];omega
  have he:=List.getElem_mem hpos
  have hge:(za4 ws)[i]? = some ((za4 ws).take 31)[i]:=by
   rw[List.getElem_take,List.getElem?_eq_getElem (by omega)]
  obtain ⟨a,hm,b1,b2,b3,g1',g2',e1,hk'⟩:=zdo h (hsub.subset he)
  refine ⟨bkAt ws a,hm,by rw[hge,e1,zaa];rfl,by rw[hk'];rfl,?_⟩
  have hit:=zdu _ ws hinc _ he (by rw[e1];dsimp only;omega) (by rw[e1];dsimp only;omega)
  rw[e1] at hit
  dsimp only at hit
  rw[Int.toNat_natCast,hx] at hit
  unfold zee
  show (!((mkB x (bkAt ws a)).mark == ((seenL ws)[(bkAt ws a).at_.toNat]?.getD false)))=false
  have hm2:(mkB x (bkAt ws a)).mark=zd6 ws (bkAt ws a):=by
   show zrh x (bkAt ws a).at_.toNat=_
   rw[zaa,Int.toNat_natCast]
   unfold zrh
   rw[hit,(zhg g1' g2' _).2.1]
  rw[hm2]
  unfold zd6
  simp
 obtain ⟨c0,m0,e0,p0,q0⟩:=hone 0 (by omega)
 obtain ⟨c1,m1,e1,p1,q1⟩:=hone 1 (by omega)
 have hne:c0≠c1:=by
  rintro rfl
  have h2:=zdq h
  rw[List.pairwise_iff_getElem] at h2
  have:=h2 0 1 (by omega) (by omega) (by omega)
  rw[List.getElem?_eq_getElem (by omega)] at e0 e1
  simp only[Option.map_some,Option.getD_some] at e0 e1
  omega
 refine zw1 (p:=fun b => !zee (seenL ws) b) (q:=(fun b => !zee (seenL ws) b) ∘ mkB x) (fun b hb hq => ?_) m0 m1 hne p0 q0 p1 q1
 dsimp only[Function.comp_apply] at hq ⊢
 cases hk:zee (seenL ws) b with
 | false=>rfl
 | true =>
  exfalso
  have hm:=hmk b hb (fun e he h2=>by
   obtain ⟨a,hm,b1,b2,b3,g1',g2',rfl,hk'⟩:=zdo h (hsub.subset he)
   dsimp only at h2
   have:bkAt ws a=b:=zBr hrow.2 hm hb (by rw[zaa];exact h2)
   rw[this,hk] at hk';cases hk')
  unfold zee at hk hq
  rw[hm] at hq
  change (!(b.mark == ((seenL ws)[b.at_.toNat]?.getD false)))=true at hq
  rw[hk] at hq
  exact absurd hq (by decide)
theorem zzw {xs:List Nat}:∀ {l:List Bk} {s:Int},l.Pairwise (fun a b=>a.at_<b.at_)→(∀ b ∈ l,0≤b.at_)→(∀ b ∈ l,b.kind=1→wd xs (b.at_.toNat+1)=b.next∨∃ e ∈ za2 l s,e.a=b.at_+1∧wd xs (b.at_.toNat+1)=e.v) →
  (za2 (l.map (nxB xs)) s).length+((za2 l s).filter (fun e=>wd xs e.a.toNat == e.v)).length≤(za2 l s).length:=by
 intro l
 induction l with
 | nil=>intro s _ _ _;exact Nat.le_refl _
 | cons b l ih =>
  intro s hp h0 hq
  rw[List.pairwise_cons] at hp
  have htail:∀ c ∈ l,c.kind=1→wd xs (c.at_.toNat+1)=c.next∨∃ e ∈ za2 l (zeo b s),e.a=c.at_+1∧wd xs (c.at_.toNat+1)=e.v:=by
   intro c hc hk
   rcases hq c (by simp[hc]) hk with h1|⟨e,he,h2,h3⟩
   · exact .inl h1
   · simp only[za2,List.mem_append] at he
     rcases he with he|he
     · split at he
       · rw[List.mem_singleton] at he
         subst he
         dsimp only at h2
         have:=hp.1 c hc
         omega
       · simp at he
     · exact .inr ⟨e,he,h2,h3⟩
  have i1:=ih (s:=zeo b s) hp.2 (fun c hc=>h0 c (by simp[hc])) htail
  have hb0:=h0 b (by simp)
  rw[List.map_cons]
  simp only[za2]
  have e1:zeo (nxB xs b) s=zeo b s:=rfl
  have e2:zbp (nxB xs b) s=zbp b s:=rfl
  rw[e1,e2,List.filter_append,List.length_append,List.length_append,List.length_append]
  have hnx:(nxB xs b).next=wd xs (b.at_.toNat+1):=rfl
  have hkk:(nxB xs b).kind=b.kind:=rfl
  have hat:(nxB xs b).at_=b.at_:=rfl
  have hhead:b.kind=1→wd xs (b.at_.toNat+1)=b.next∨wd xs (b.at_.toNat+1)=zbp b s:=by
   intro hk
   rcases hq b (by simp) hk with h1|⟨e,he,h2,h3⟩
   · exact .inl h1
   · simp only[za2,List.mem_append] at he
     rcases he with he|he
     · split at he
       · rw[List.mem_singleton] at he
         subst he
         exact .inr h3
       · simp at he
     · obtain ⟨c,hc,-,h4⟩:=zfq he
       have:=hp.1 c hc
       omega
  have hn:(b.at_+1).toNat=b.at_.toNat+1:=by omega
  have hle:(if (nxB xs b).kind=1∧(nxB xs b).next≠zbp b s then [(⟨(nxB xs b).at_+1,zbp b s⟩:En)] else []).length+((if b.kind=1∧b.next≠zbp b s then [(⟨b.at_+1,zbp b s⟩:En)] else []).filter (fun e=>wd xs e.a.toNat == e.v)).length≤(if b.kind=1∧b.next≠zbp b s then [(⟨b.at_+1,zbp b s⟩:En)] else []).length:=by
   rw[hnx,hkk,hat]
   by_cases hk:b.kind=1
   · by_cases hw:b.next=zbp b s
     · have hx:wd xs (b.at_.toNat+1)=zbp b s:=by
         rcases hhead hk with h1|h1
         · rw[h1];exact hw
         · exact h1
       rw[if_neg (show ¬ (b.kind=1∧b.next≠zbp b s) from fun h=>h.2 hw),if_neg (show ¬ (b.kind=1∧wd xs (b.at_.toNat+1)≠zbp b s) from fun h=>h.2 hx)];exact Nat.le_refl _
     · rw[if_pos (show b.kind=1∧b.next≠zbp b s from ⟨hk,hw⟩)]
       by_cases hv:wd xs (b.at_.toNat+1)=zbp b s
       · rw[if_neg (fun h=>h.2 hv)]
         simp[hn,hv]
       · rw[if_pos ⟨hk,hv⟩]
         have:(wd xs (b.at_+1).toNat == zbp b s)=false:=by rw[hn,beq_eq_false_iff_ne];exact hv
         simp[this]
   · rw[if_neg (fun h=>hk h.1),if_neg (fun h=>hk h.1)];exact Nat.le_refl _
  omega
theorem zEj {ws:List Nat} (h:zae ws=0) (h32:32≤(za0 ws).length):(za0 (zag ws ((za0 ws).take 31))).length+2≤(za0 ws).length:=by
 obtain ⟨i1,i2,i3⟩:=zow h
 have hw:za0 ws=za2 (zab ws) 128:=zrv h
 have hrow:=zb1 h
 have hsub:((za0 ws).take 31).Sublist (za0 ws):=List.take_sublist _ _
 have hinc:((za0 ws).take 31).Pairwise (fun a b=>a.a<b.a):=i1.sublist hsub
 have hodd:∀ e ∈ za0 ws,∃ a:Nat,e.a=((a+1:Nat):Int)∧a % 2=0∧128≤a:=by
  intro e he
  rw[hw] at he
  obtain ⟨b,hb,-,e2⟩:=zfq he
  obtain ⟨a,rfl,a1,a2,-⟩:=hrow.1 b hb
  exact ⟨a,by rw[e2,zaa];rfl,a2,a1⟩
 have hev:Ev ws (zag ws ((za0 ws).take 31)):=by
  refine ⟨zau _ _,fun i hi=>za9 _ _ _ fun e he h2 => ?_⟩
  obtain ⟨a,e1,a1,a2⟩:=hodd e (hsub.subset he)
  omega
 obtain ⟨g1,g2⟩:=hev.heap h
 have hw2:za0 (zag ws ((za0 ws).take 31))=za2 ((zab ws).map (nxB (zag ws ((za0 ws).take 31)))) 128:=by rw[zrv g1,g2]
 rw[hw2]
 have hit:∀ e ∈ (za0 ws).take 31,wd (zag ws ((za0 ws).take 31)) e.a.toNat=e.v:=fun e he=>by
  have hin:=i2 _ (hsub.subset he)
  exact zdu _ ws hinc _ he (by omega) (by omega)
 have key:=zzw (xs:=zag ws ((za0 ws).take 31)) (l:=zab ws) (s:=128) hrow.2 (fun b hb=>by obtain ⟨a,rfl,-⟩:=hrow.1 b hb;rw[zaa];omega) (fun b hb hk=>by
  obtain ⟨a,rfl,a1,a2,a3,a4⟩:=hrow.1 b hb
  have hsz:=zav a4
  rw[zaa,Int.toNat_natCast]
  by_cases hx:∃ e ∈ (za0 ws).take 31,e.a=((a+1:Nat):Int)
  · obtain ⟨e,he,e1⟩:=hx
    refine .inr ⟨e,by rw[←hw];exact hsub.subset he,by rw[e1];omega,?_⟩
    have:=hit e he
    rw[e1,Int.toNat_natCast] at this
    exact this
  · exact .inl (by rw[za9 _ _ _ (fun e he h2=>hx ⟨e,he,h2⟩)];rfl))
 rw[←hw] at key
 have hfl:31≤((za0 ws).filter (fun e=>wd (zag ws ((za0 ws).take 31)) e.a.toNat == e.v)).length:=by
  have h1:(za0 ws).take 31=((za0 ws).take 31).filter (fun e=>wd (zag ws ((za0 ws).take 31)) e.a.toNat == e.v):=by
    symm
    rw[List.filter_eq_self]
    intro e he
    rw[beq_iff_eq]
    exact hit e he
  have h2:=(hsub.filter (fun e=>wd (zag ws ((za0 ws).take 31)) e.a.toNat == e.v)).length_le
  rw[←h1,List.length_take] at h2
  omega
 omega
end Go.Proofs.YtpcajamacpbjcaaGreat
namespace Go.Proofs.YtpcajamacpbjcaaGreat
open Go.RowKit
theorem zKj {x:List Nat} (hck:zao x=0) (p3:wd x 16=3) (h:(zdg x).1=0) :
   (wd (zag x (zdg x).2) 16=3∧wd (zag x (zdg x).2) 17≤x.length∧(wd x 17=0→wd (zag x (zdg x).2) 17=128)∧(wd x 17≠0→wd x 17+2≤wd (zag x (zdg x).2) 17))∨(wd (zag x (zdg x).2) 16=4∧wd (zag x (zdg x).2) 17=128∧wd x 17≠0):=by
 obtain ⟨-,hs,hl,hph⟩:=zck hck
 have hb:=(zad _).1 hs
 obtain ⟨⟨l1,l2,l3⟩,-⟩:=(zbn x).1 hl
 by_cases z:wd x 17=0
 · have hfs:zey x=0:=by
     by_cases h0:zey x=0
     · exact h0
     · unfold zdg at h;rw[if_pos z,if_neg h0] at h;exact absurd h h0
   have e2:zdg x=(0,⟨17,128⟩ :: zec x):=by unfold zdg;rw[if_pos z,if_pos hfs]
   obtain ⟨-,-,-,-,-,-,-,q1,q2,q3,-⟩:=zip hfs
   obtain ⟨g1,g2,g3,g4,g5,g6⟩:=zii (f:=128) (l:=zec x) hck p3 (by decide) (by omega) (by omega) (by omega) q2 (fun e he=>by have:=(q1 e he).1;omega) (fun e he=>(q1 e he).2)
   rw[e2]
   exact .inl ⟨g4,by rw[g5];omega,fun _=>g5,fun h1=>absurd z h1⟩
 · have e2:zdg x=zkn x (wd x 17):=by unfold zdg;rw[if_neg z]
   have h':(zkn x (wd x 17)).1=0:=by rw[←e2];exact h
   rcases zos x.length (wd x 17) (by omega) l2 h' with h1|⟨m,m1,m2,m3,m4,m5,m6,m7,m8⟩
   · rw[e2,h1]
     obtain ⟨g1,g2,g3,g4,g5,g6⟩:=zgd hck p3
     exact .inr ⟨g4,g5,z⟩
   · obtain ⟨f,-,-,-,-,q5,-,-,-,q9⟩:=zhb m7
     have q6:=zF5 m7
     obtain ⟨g1,g2,g3,g4,g5,g6⟩:=zii (f:=m+szAt x m) (l:=zct x (m:Int)) hck p3 ((za7 _).2 (by omega)) m6 (by omega) (by omega) q9 (fun e he=>by have:=q6 e he;omega) (fun e he=>by have:=q6 e he;omega)
     rw[e2,m8]
     exact .inl ⟨g4,by rw[g5];exact m6,fun h1=>absurd h1 z,fun _=>by rw[g5];omega⟩
theorem zz3 {x:List Nat} (ho:∀ v ∈ x,v<18446744073709551616) (hck:zao x=0) (p4:wd x 16=4) (h:(zes x).1=0) :
  wd (zag x (zes x).2) 16=4∧wd (zag x (zes x).2) 17≤x.length∧wd x 17+2≤wd (zag x (zes x).2) 17:=by
 obtain ⟨-,hs,hl,hph⟩:=zck hck
 have hb:=(zad _).1 hs
 obtain ⟨⟨l1,l2,l3⟩,-⟩:=(zbn x).1 hl
 have hnx:zbj x ((wd x 17:Nat):Int)=0:=by
  by_cases h0:zbj x ((wd x 17:Nat):Int)=0
  · exact h0
  · unfold zes at h;rw[if_neg h0] at h;exact absurd h (by decide)
 obtain ⟨-,a1,a2,m,em,m1,m2,m3,m4,m5,m6,m7,m8,-⟩:=zfc hnx
 have hmv:zex x (m:Int) ((wd x 18:Nat):Int)=0:=by
  by_cases h0:zex x (m:Int) ((wd x 18:Nat):Int)=0
  · exact h0
  · unfold zes at h;rw[if_pos hnx,em,zaa,if_neg h0] at h;exact absurd h h0
 have e2:zes x=(0,⟨17,m+szAt x m⟩ :: ⟨18,wd x 18+szAt x m⟩ :: zix x m (wd x 18)):=by
  unfold zes
  rw[if_pos hnx,em,zaa,if_pos hmv,zba,show ((m:Int)+((szAt x m:Nat):Int)).toNat=m+szAt x m by omega,show (((wd x 18:Nat):Int)+((szAt x m:Nat):Int)).toNat=wd x 18+szAt x m by omega]
  unfold zi3
  rw[if_pos hmv,Int.toNat_natCast,Int.toNat_natCast]
 obtain ⟨a,u,n,ea,eu,en,n2,n10,hu,hua,han,hst,hlv,-,-,hun⟩:=zfy hmv
 have ea:a=m:=by omega
 have eu:u=wd x 18:=by omega
 subst ea eu
 subst en
 have hfp:=(zcp _ _ _).1 hph
 have hin:zkp (wd x 17)=true∧zkp (wd x 18)=true∧wd x 18≤wd x 17:=by
  rcases hfp with h1|h1|h1
  · exact h1.2
  · omega
  · omega
 have i1:=(za7 _).1 hin.1
 have i2:=(za7 _).1 hin.2.1
 rw[e2]
 obtain ⟨g1,g2,g3,g4,g5,g6⟩:=zne (f:=a+szAt x a) (t:=wd x 18+szAt x a) (l:=zix x a (wd x 18)) hck p4 ((za7 _).2 (by omega)) ((za7 _).2 (by omega)) (by omega) (by omega) (by omega) (by omega) (by rw[zg8];omega) (by
    rw[List.pairwise_iff_getElem]
    intro i j hi hj hij
    rw[zf2,zf2];omega) (fun e he=>by
    obtain ⟨k,hk,rfl⟩:=List.getElem_of_mem he
    rw[zf2]
    rw[zg8] at hk
    omega) (ztj ho hun)
 exact ⟨g4,by rw[g5];omega,by rw[g5];omega⟩
noncomputable def rzM (x:List Nat):Nat:=
 if wd x 16=1 then (za4 x).length / 2+1+((x.length - 128) / 2 / 2+1)+((x.length - 128) / 2+2)+((x.length - 128) / 2+1)
 else if wd x 16=2 then (za0 x).length / 2+1+((x.length - 128) / 2+2)+((x.length - 128) / 2+1)
 else if wd x 16=3 then (if wd x 17=0 then (x.length - 128) / 2+2 else (x.length - wd x 17) / 2+1)+((x.length - 128) / 2+1)
 else if wd x 16=4 then (x.length - wd x 17) / 2+1 else 0
theorem zzr (x:List Nat) (hs:128≤x.length):(za0 x).length≤(x.length - 128) / 2:=by
 by_cases h:zae x=0
 · rw[zrv h]
   have h1:=zmu (zab x) 128
   have h2:=ztm x h
   omega
 · unfold za0;rw[if_neg h];simp
theorem zI7 (x:List Nat) (hs:128≤x.length):(za4 x).length≤(x.length - 128) / 2:=by
 by_cases h:zap x=0
 · rw[zdz h,List.length_map]
   have h1:=zp8 (seenL x) (zab x)
   have h2:=ztm x (zas h).1
   omega
 · unfold za4;rw[if_neg h];simp
theorem zE7 {x:List Nat} (ho:∀ v ∈ x,v<18446744073709551616) (h:(zac x).1=0):rzM (zag x (zac x).2)<rzM x:=by
 obtain ⟨hck,-,-,-,-,k6,-,-⟩:=zlu ho h
 obtain ⟨-,hs,hl,hph⟩:=zck hck
 have hb:=(zad _).1 hs
 obtain ⟨⟨l1,l2,l3⟩,-⟩:=(zbn x).1 hl
 have hfp:=(zcp _ _ _).1 hph
 have hlen:(zag x (zac x).2).length=x.length:=zau _ _
 have hwn:=zzr (zag x (zac x).2) (by omega)
 rw[hlen] at hwn
 unfold rzM
 rw[hlen]
 by_cases p1:wd x 16=1
 · have hrc:zap x=0:=by
     by_cases h0:zap x=0
     · exact h0
     · unfold zac at h;rw[if_pos hck,if_pos p1,if_neg h0] at h;exact absurd h h0
   have e:zac x=(0,zg1 (za4 x) 2):=by unfold zac;rw[if_pos hck,if_pos p1,if_pos hrc]
   obtain ⟨r1,r2⟩:=zqd hrc
   obtain ⟨g1,g2,g3,g4,g5,g6⟩:=zfe hck p1 (.inl rfl) (zdq hrc) (fun y hy=>by
     obtain ⟨i,hi⟩:=List.mem_iff_getElem?.1 hy
     exact r1 i y hi) (zo6 hrc)
   simp only[Nat.reduceAdd] at g4
   rw[e] at hwn ⊢
   dsimp only at hwn ⊢
   rw[if_pos p1,g4]
   by_cases h32:32≤(za4 x).length
   · have hd:=zB7 hrc h32
     rw[if_pos h32,if_pos rfl,zcd h32]
     omega
   · rw[if_neg h32,if_neg (by decide),if_pos rfl]
     omega
 · by_cases p2:wd x 16=2
   · have hhp:zae x=0:=by
       by_cases h0:zae x=0
       · exact h0
       · unfold zac at h;rw[if_pos hck,if_neg p1,if_pos p2,if_neg h0] at h;exact absurd h h0
     have e:zac x=(0,zg1 (za0 x) 3):=by unfold zac;rw[if_pos hck,if_neg p1,if_pos p2,if_pos hhp]
     obtain ⟨r1,r2,r3⟩:=zow hhp
     obtain ⟨g1,g2,g3,g4,g5,g6⟩:=zfe hck p2 (.inr rfl) r1 r2 r3
     simp only[Nat.reduceAdd] at g4 g5
     rw[e] at hwn ⊢
     dsimp only at hwn ⊢
     rw[if_neg p1,if_pos p2,g4,g5]
     by_cases h32:32≤(za0 x).length
     · have hd:=zEj hhp h32
       rw[if_pos h32,if_neg (by decide),if_pos rfl,zcd h32]
       omega
     · rw[if_neg h32,if_neg (by decide),if_neg (by decide),if_pos rfl,if_pos rfl]
       omega
   · by_cases p3:wd x 16=3
     · have e:zac x=zdg x:=by unfold zac;rw[if_pos hck,if_neg p1,if_neg p2,if_pos p3]
       rw[e] at h ⊢
       have hF:wd x 17=0∨128≤wd x 17:=by
         rcases hfp with h1|⟨-,-,h1⟩|h1
         · omega
         · rcases h1 with h1|h1
           · exact .inl h1
           · exact .inr ((za7 _).1 h1).1
         · omega
       rcases zKj hck p3 h with ⟨g4,g5,g6,g7⟩|⟨g4,g5,g6⟩
       · rw[g4,if_neg (by decide),if_neg (by decide),if_pos rfl,if_neg p1,if_neg p2,if_pos p3]
         by_cases z:wd x 17=0
         · rw[if_pos z,g6 z,if_neg (by decide)]
           omega
         · have:=g7 z
           rw[if_neg z,if_neg (by omega)]
           omega
       · rw[g4,g5,if_neg (by decide),if_neg (by decide),if_neg (by decide),if_pos rfl,if_neg p1,if_neg p2,if_pos p3,if_neg g6]
         omega
     · have p4:wd x 16=4:=by omega
       have e:zac x=zes x:=by unfold zac;rw[if_pos hck,if_neg p1,if_neg p2,if_neg p3,if_pos p4]
       rw[e] at h ⊢
       obtain ⟨g4,g5,g6⟩:=zz3 ho hck p4 h
       rw[g4,if_neg (by decide),if_neg (by decide),if_neg (by decide),if_pos rfl,if_neg p1,if_neg p2,if_neg p3,if_pos p4]
       omega
theorem zHn {x:List Nat} (hs:zah (x.length:Int)=true):rzM x≤(x.length - 128) / 2 * 3+5:=by
 have hb:=(zad _).1 hs
 have h1:=zI7 x (by omega)
 have h2:=zzr x (by omega)
 unfold rzM
 by_cases p1:wd x 16=1
 · rw[if_pos p1];omega
 · rw[if_neg p1]
   by_cases p2:wd x 16=2
   · rw[if_pos p2];omega
   · rw[if_neg p2]
     by_cases p3:wd x 16=3
     · rw[if_pos p3]
       split
       · omega
       · have:(x.length - wd x 17) / 2≤x.length / 2:=by omega
         omega
     · rw[if_neg p3]
       split <;> omega
end Go.Proofs.YtpcajamacpbjcaaGreat
namespace Go.Proofs.YtpcajamacpbjcaaGreat
open Go.RowKit
theorem zqq {x:List Nat} (h:zew x=0):Small x.length (zdx x)∧wd (zag x (zdx x)) 16=0:=by
 obtain ⟨hs,-,-,-,h5,h6,-,h8⟩:=zg9 h
 have hb:=(zad _).1 hs
 have hi:=(za7 _).1 h5
 rw[←h8] at hi h6
 refine ⟨?_,by rw[zAa h,if_pos (.inl rfl)]⟩
 unfold zdx
 rw[if_pos h]
 have hne:=fun hne=>zqj (zs1 h hne)
 generalize zfa x=t at hi h6 hne
 have hph:phE 0 0 0=[⟨16,0⟩,⟨17,0⟩,⟨18,0⟩]:=rfl
 rw[hph]
 by_cases he:t=x.length
 · rw[if_pos he]
   refine ⟨by decide,by decide,by simp,fun e he => ?_,fun e he => ?_⟩ <;>
   · simp only[List.append_nil,List.mem_cons,List.not_mem_nil,or_false] at he
     rcases he with rfl|rfl|rfl <;> (dsimp only;omega)
 · have hv:=hne he
   rw[if_neg he]
   refine ⟨by simp,by simp,?_,fun e he => ?_,fun e he => ?_⟩
   · simp only[List.cons_append,List.nil_append,List.pairwise_cons,List.mem_cons,List.not_mem_nil,or_false,forall_eq_or_imp,forall_eq,List.Pairwise.nil,and_true,false_implies,implies_true]
     omega
   · simp only[List.cons_append,List.nil_append,List.mem_cons,List.not_mem_nil,or_false] at he
     rcases he with rfl|rfl|rfl|rfl|rfl <;> (dsimp only;omega)
   · simp only[List.cons_append,List.nil_append,List.mem_cons,List.not_mem_nil,or_false] at he
     rcases he with rfl|rfl|rfl|rfl|rfl <;> (dsimp only;omega)
theorem zyd {x:List Nat} (ho:∀ v ∈ x,v<18446744073709551616) (h:(zc8 x).1=0) (hd:(zc8 x).2.1=false):Small x.length (zc8 x).2.2∧(∀ v ∈ zag x (zc8 x).2.2,v<18446744073709551616)∧rzM (zag x (zc8 x).2.2)<rzM x:=by
 by_cases h6:(zac x).1=6
 · by_cases h0:wd x 16=0
   · unfold zc8 at hd
     rw[if_pos h6,if_pos h0] at hd
     cases hd
   · have e:zc8 x=(zew x,false,zdx x):=by unfold zc8;rw[if_pos h6,if_neg h0]
     rw[e] at h ⊢
     dsimp only at h ⊢
     obtain ⟨g1,g2⟩:=zqq h
     refine ⟨g1,zo7 _ _ ho g1.val,?_⟩
     have h4:wd x 16=4:=(zg9 h).2.2.2.1
     unfold rzM
     rw[g2,if_neg (by decide),if_neg (by decide),if_neg (by decide),if_neg (by decide),h4,if_neg (by decide),if_neg (by decide),if_neg (by decide),if_pos rfl]
     omega
 · have e:zc8 x=((zac x).1,false,(zac x).2):=by unfold zc8;rw[if_neg h6]
   rw[e] at h ⊢
   dsimp only at h ⊢
   exact ⟨(zlu ho h).2.1,zdf ho h,zE7 ho h⟩
noncomputable def rsG:Nat→List Nat→Int × List (List En) × List Nat
 | 0,x=>(0,[],x)
 | f+1,x=>if (zc8 x).1=0 then (if (zc8 x).2.1=true then (0,[],x)
  else if (rsG f (zag x (zc8 x).2.2)).1=0 then (0,(zc8 x).2.2 :: (rsG f (zag x (zc8 x).2.2)).2.1,(rsG f (zag x (zc8 x).2.2)).2.2) else ((rsG f (zag x (zc8 x).2.2)).1,[],[]))
  else ((zc8 x).1,[],[])
theorem zEq:∀ {f g:Nat} {x:List Nat},(∀ v ∈ x,v<18446744073709551616)→rzM x<f→rzM x<g→rsG f x=rsG g x:=by
 intro f
 induction f with
 | zero=>intro g x _ h;omega
 | succ f ih =>
  intro g x ho hf hg
  cases g with
  | zero=>omega
  | succ g =>
   simp only[rsG]
   by_cases h0:(zc8 x).1=0
   · cases hd:(zc8 x).2.1 with
     | true=>simp only[if_true]
     | false =>
      obtain ⟨-,h2,h3⟩:=zyd ho h0 hd
      rw[ih (g:=g) h2 (by omega) (by omega)]
   · simp only[h0,if_false]
noncomputable def rsE (x:List Nat):Int × List (List En) × List Nat:=rsG (rzM x+1) x
theorem zk7 {x:List Nat} (h:(zc8 x).1≠0):rsE x=((zc8 x).1,[],[]):=by
 unfold rsE
 simp only[rsG]
 rw[if_neg h]
theorem zis {x:List Nat} (h:(zc8 x).1=0) (hd:(zc8 x).2.1=true):rsE x=(0,[],x):=by
 unfold rsE
 simp only[rsG]
 rw[if_pos h,if_pos hd]
theorem zhj {x:List Nat} (ho:∀ v ∈ x,v<18446744073709551616) (h:(zc8 x).1=0) (hd:(zc8 x).2.1=false):rsE x=(if (rsE (zag x (zc8 x).2.2)).1=0 then (0,(zc8 x).2.2 :: (rsE (zag x (zc8 x).2.2)).2.1,(rsE (zag x (zc8 x).2.2)).2.2) else ((rsE (zag x (zc8 x).2.2)).1,[],[])):=by
 obtain ⟨-,h2,h3⟩:=zyd ho h hd
 have e:rsG (rzM x) (zag x (zc8 x).2.2)=rsE (zag x (zc8 x).2.2):=zEq h2 h3 (Nat.lt_succ_self _)
 conv=>lhs;unfold rsE
 simp only[rsG]
 rw[if_pos h,if_neg (by rw[hd];decide),e]
theorem zKd {x:List Nat} (ho:∀ v ∈ x,v<18446744073709551616) (h:(rsE x).1≠0):rsE x=((rsE x).1,[],[]):=by
 by_cases h0:(zc8 x).1=0
 · cases hd:(zc8 x).2.1 with
   | true=>rw[zis h0 hd] at h;exact absurd rfl h
   | false =>
    rw[zhj ho h0 hd] at h ⊢
    by_cases h1:(rsE (zag x (zc8 x).2.2)).1=0
    · rw[if_pos h1] at h;exact absurd rfl h
    · rw[if_neg h1]
 · rw[zk7 h0]
noncomputable def zgv (ws:List Nat):Int × List (List En) × List Nat:=if zao ws=0 then rsE ws else (zao ws,[],[])
def zk3 (ws:List Nat) (outs:List (List En)) (x:List Nat):Prop:=rsE ws=if (rsE x).1=0 then (0,outs++(rsE x).2.1,(rsE x).2.2) else ((rsE x).1,[],[])
theorem zhe {ws:List Nat} (ho:∀ v ∈ ws,v<18446744073709551616):zk3 ws [] ws:=by
 unfold zk3
 by_cases h:(rsE ws).1=0
 · rw[if_pos h,List.nil_append,←h]
 · rw[if_neg h];exact zKd ho h
theorem zyo {ws:List Nat} {outs:List (List En)} {x:List Nat} (h:zk3 ws outs x) (ho:∀ v ∈ x,v<18446744073709551616) (h0:(zc8 x).1=0) (hd:(zc8 x).2.1=false):zk3 ws (outs++[(zc8 x).2.2]) (zag x (zc8 x).2.2):=by
 unfold zk3 at h ⊢
 rw[h,zhj ho h0 hd]
 by_cases h1:(rsE (zag x (zc8 x).2.2)).1=0
 · rw[if_pos h1,if_pos rfl,if_pos h1]
   simp
 · rw[if_neg h1,if_neg (by exact h1),if_neg h1]
theorem zCf {ws:List Nat} {outs:List (List En)} {x:List Nat} (h:zk3 ws outs x) (h0:(zc8 x).1=0) (hd:(zc8 x).2.1=true):rsE ws=(0,outs,x):=by
 unfold zk3 at h
 rw[h,zis h0 hd]
 simp
theorem zDe {ws:List Nat} {outs:List (List En)} {x:List Nat} (h:zk3 ws outs x) (h0:(zc8 x).1≠0):rsE ws=((zc8 x).1,[],[]):=by
 unfold zk3 at h
 rw[h,zk7 h0,if_neg (by exact h0)]
theorem zC0 {x y:List Nat} {E:List En} {outs:List (List En)} (ho:∀ v ∈ x,v<18446744073709551616) (h:rsE x=(0,E :: outs,y)):zc8 x=(0,false,E)∧rsE (zag x E)=(0,outs,y):=by
 by_cases h0:(zc8 x).1=0
 · cases hd:(zc8 x).2.1 with
   | true=>rw[zis h0 hd] at h;simp at h
   | false =>
    rw[zhj ho h0 hd] at h
    by_cases h1:(rsE (zag x (zc8 x).2.2)).1=0
    · rw[if_pos h1] at h
      simp only[Prod.mk.injEq,List.cons.injEq,true_and] at h
      obtain ⟨⟨h2,h3⟩,h4⟩:=h
      refine ⟨by rw[←h0,←hd,←h2],?_⟩
      rw[←h2,←h3,←h4,←h1]
    · rw[if_neg h1] at h
      simp at h
 · rw[zk7 h0] at h
   simp at h
theorem zJ1:∀ {outs:List (List En)} {x y:List Nat},(∀ v ∈ x,v<18446744073709551616)→rsE x=(0,outs,y)→∀ n,n≤outs.length→(∀ v ∈ stX x outs n,v<18446744073709551616)∧(stX x outs n).length=x.length∧rsE (stX x outs n)=(0,outs.drop n,y)∧(zc8 (stX x outs n)).1=0∧∀ h:n<outs.length,zc8 (stX x outs n)=(0,false,outs[n])∧Small x.length outs[n]:=by
 intro outs
 induction outs with
 | nil =>
  intro x y ho h n hn
  have:n=0:=by simpa using hn
  subst this
  refine ⟨ho,rfl,h,?_,fun h=>absurd h (by simp)⟩
  rw[zwb]
  by_cases h0:(zc8 x).1=0
  · exact h0
  · rw[zk7 h0] at h
    simp only[Prod.mk.injEq] at h
    exact h.1
 | cons E outs ih =>
  intro x y ho h n hn
  obtain ⟨h2,h3⟩:=zC0 ho h
  have hok:=zyd ho (by rw[h2]) (by rw[h2])
  rw[h2] at hok
  cases n with
  | zero=>exact ⟨ho,rfl,h,by rw[zwb,h2],fun _=>⟨h2,hok.1⟩⟩
  | succ n =>
    rw[zFs]
    obtain ⟨g1,g2,g3,g4,g5⟩:=ih hok.2.1 h3 n (by simpa using hn)
    refine ⟨g1,by rw[g2,zau],g3,g4,fun hh => ?_⟩
    obtain ⟨g6,g7⟩:=g5 (by simpa using hh)
    rw[zau] at g7
    exact ⟨g6,g7⟩
theorem zIu {outs:List (List En)} {x y:List Nat} (ho:∀ v ∈ x,v<18446744073709551616) (h:rsE x=(0,outs,y)):stX x outs outs.length=y∧(zc8 y).1=0∧(zc8 y).2.1=true:=by
 obtain ⟨g1,g2,g3,g4,-⟩:=zJ1 ho h outs.length (Nat.le_refl _)
 rw[List.drop_length] at g3
 cases hd:(zc8 (stX x outs outs.length)).2.1 with
 | true =>
  rw[zis g4 hd] at g3
  simp only[Prod.mk.injEq,true_and] at g3
  rw[g3] at g4 hd
  exact ⟨g3,g4,hd⟩
 | false =>
  rw[zhj g1 g4 hd] at g3
  split at g3
  · simp at g3
  · rename_i h1
    simp only[Prod.mk.injEq] at g3
    exact absurd g3.1 h1
theorem rs_len:∀ {outs:List (List En)} {x y:List Nat},(∀ v ∈ x,v<18446744073709551616)→rsE x=(0,outs,y)→outs.length≤rzM x:=by
 intro outs
 induction outs with
 | nil=>intro x y _ _;exact Nat.zero_le _
 | cons E outs ih =>
  intro x y ho h
  obtain ⟨h2,h3⟩:=zC0 ho h
  have hok:=zyd ho (by rw[h2]) (by rw[h2])
  rw[h2] at hok
  have:=ih hok.2.1 h3
  rw[List.length_cons]
  have:=hok.2.2
  dsimp only at this
  omega
theorem zvi {ws y:List Nat} {outs:List (List En)} (ho:∀ v ∈ ws,v<18446744073709551616) (h:zgv ws=(0,outs,y)):zao ws=0∧rsE ws=(0,outs,y)∧outs.length≤(ws.length - 128) / 2 * 3+5∧stX ws outs outs.length=y∧(∀ n,n≤outs.length→(∀ v ∈ stX ws outs n,v<18446744073709551616)∧(stX ws outs n).length=ws.length∧zgv (stX ws outs n)=(0,outs.drop n,y))∧∀ n (h:n<outs.length),Small ws.length outs[n]:=by
 have hck:zao ws=0:=by
  by_cases h0:zao ws=0
  · exact h0
  · unfold zgv at h;rw[if_neg h0] at h
    simp only[Prod.mk.injEq] at h
    exact absurd h.1 h0
 have he:rsE ws=(0,outs,y):=by unfold zgv at h;rw[if_pos hck] at h;exact h
 obtain ⟨-,hs,-⟩:=zck hck
 refine ⟨hck,he,Nat.le_trans (rs_len ho he) (zHn hs),(zIu ho he).1,fun n hn => ?_,fun n hn=>((zJ1 ho he n (Nat.le_of_lt hn)).2.2.2.2 hn).2⟩
 obtain ⟨g1,g2,g3,g4,-⟩:=zJ1 ho he n hn
 refine ⟨g1,g2,?_⟩
 unfold zgv
 rw[if_pos (rs_ck g4)]
 exact g3
end Go.Proofs.YtpcajamacpbjcaaGreat
namespace Go.Proofs.YtpcajamacpbjcaaGreat
open Go.RowKit
theorem zBk {p:Nat}:∀ n x,(∀ v ∈ x,v<18446744073709551616)→mzS p x≤n→((zc7 p x).1≠0→rsE x=((zc7 p x).1,[],[]))∧((zc7 p x).1=0→zk3 x (zc7 p x).2.1 (zc7 p x).2.2):=by
 intro n
 induction n with
 | zero =>
  intro x ho h
  have hp:wd x 16≠p:=fun hp=>by unfold mzS at h;rw[if_pos hp] at h;omega
  rw[zcj hp]
  exact ⟨fun h=>absurd rfl h,fun _=>zhe ho⟩
 | succ n ih =>
  intro x ho h
  by_cases hp:wd x 16=p
  · by_cases h6:(zac x).1=6
    · rw[zjl hp h6]
      exact ⟨fun h=>absurd rfl h,fun _=>zhe ho⟩
    · have hnx:zc8 x=((zac x).1,false,(zac x).2):=by unfold zc8;rw[if_neg h6]
      by_cases h0:(zac x).1=0
      · have hd:=zfj ho hp h0
        obtain ⟨i1,i2⟩:=ih (zag x (zac x).2) (zdf ho h0) (by omega)
        have hs:=zhj ho (by rw[hnx];exact h0) (by rw[hnx])
        rw[hnx] at hs
        dsimp only at hs
        rw[zdp ho hp h0]
        by_cases h1:(zc7 p (zag x (zac x).2)).1=0
        · rw[if_pos h1]
          refine ⟨fun h=>absurd rfl h,fun _ => ?_⟩
          have hc:=i2 h1
          unfold zk3 at hc ⊢
          rw[hs,hc]
          dsimp only
          by_cases h2:(rsE (zc7 p (zag x (zac x).2)).2.2).1=0
          · rw[if_pos h2,if_pos rfl,if_pos h2];rfl
          · rw[if_neg h2,if_neg (by exact h2),if_neg h2]
        · rw[if_neg h1]
          refine ⟨fun _ => ?_,fun h=>absurd h h1⟩
          rw[hs,i1 h1,if_neg (by exact h1)]
      · rw[zqe hp h6 h0]
        refine ⟨fun _ => ?_,fun h=>absurd h h0⟩
        rw[zk7 (by rw[hnx];exact h0),hnx]
  · rw[zcj hp]
    exact ⟨fun h=>absurd rfl h,fun _=>zhe ho⟩
theorem zj8 {p:Nat}:∀ n x,(∀ v ∈ x,v<18446744073709551616)→mzS p x≤n→(zc7 p x).1=0→(∀ v ∈ (zc7 p x).2.2,v<18446744073709551616)∧(zc7 p x).2.2.length=x.length:=by
 intro n
 induction n with
 | zero =>
  intro x ho h _
  have hp:wd x 16≠p:=fun hp=>by unfold mzS at h;rw[if_pos hp] at h;omega
  rw[zcj hp]
  exact ⟨ho,rfl⟩
 | succ n ih =>
  intro x ho h hz
  by_cases hp:wd x 16=p
  · by_cases h6:(zac x).1=6
    · rw[zjl hp h6]
      exact ⟨ho,rfl⟩
    · by_cases h0:(zac x).1=0
      · have hd:=zfj ho hp h0
        rw[zdp ho hp h0] at hz ⊢
        by_cases h1:(zc7 p (zag x (zac x).2)).1=0
        · rw[if_pos h1]
          obtain ⟨i1,i2⟩:=ih (zag x (zac x).2) (zdf ho h0) (by omega) h1
          exact ⟨i1,i2.trans (zau _ _)⟩
        · rw[if_neg h1] at hz
          exact absurd hz h1
      · rw[zqe hp h6 h0] at hz
        exact absurd hz h0
  · rw[zcj hp]
    exact ⟨ho,rfl⟩
end Go.Proofs.YtpcajamacpbjcaaGreat
