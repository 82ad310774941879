/- CompactHandles: the plain half. -/
import Derived.Test.YtpcajamacpbjcaaGreatZKCp2
import Derived.Test.YtpcajamacpbjcaaGreatZKLy1
namespace Go.Proofs.YtpcajamacpbjcaaGreat
open Go.RowKit
def zh0 (a:List Int) (v:Int):Nat→Int
 | 0 => -1
 | k+1=>if a[k]?.getD 0=v then (k:Int) else zh0 a v k
theorem zCh {a:List Int} {v:Int} (hinc:a.Pairwise (· < ·)) {m:Nat} (hm:m<a.length) (e:a[m]=v):∀ k,m<k→k≤a.length→zh0 a v k=(m:Int):=by
 intro k
 induction k with
 | zero=>intro h;omega
 | succ k ih =>
  intro h h2
  unfold zh0
  have hk:k<a.length:=by omega
  rw[List.getElem?_eq_getElem hk,Option.getD_some]
  rcases Nat.lt_or_ge m k with h3|h3
  · rw[List.pairwise_iff_getElem] at hinc
    have:=hinc m k hm hk h3
    rw[if_neg (by omega)]
    exact ih h3 (by omega)
  · have:m=k:=by omega
    subst this
    rw[if_pos e]
structure ChF (w z:List Nat):Prop where
 rw_:zap w=0
 rz:zap z=0
 len:(za3 z).length=(za3 w).length
 gen:∀ i,i<16→(slAt z i).gen=(slAt w i).gen
 used:∀ i,i<16→(slAt z i).used=(slAt w i).used
 at_:∀ i,i<16→(slAt w i).used=true→∃ m:Nat,m<(za3 w).length∧∃ h2:m<(za3 z).length,zh0 (za3 w) (slAt w i).at_ (za3 w).length=(m:Int)∧(za3 z)[m]=(slAt z i).at_
 wa:zhl z=0
 free:∀ k (h:k<(zdv z).length),(zdv z)[k].kind=2→k+1=(zdv z).length
theorem wa_hp {z:List Nat} {t:Nat} (L:Lay z t):zhl z=0∧zdv z=zab z:=by
 obtain ⟨h1,l,h2,h3,h4⟩:=zam L.hp
 have ha:=L.adj
 rw[h4] at ha
 have e:zhl z=0:=by
  unfold zhl
  rw[if_pos h1,zfz h2,ha];rfl
 exact ⟨e,by unfold zdv;rw[if_pos e,h2,h4];rfl⟩
theorem CpR.ch {w z:List Nat} {t:Nat} (R:CpR w z t):ChF w z:=by
 obtain ⟨w1,w2⟩:=wa_hp R.lay
 have hw:=R.V.fst
 have hz:=R.out
 refine ⟨R.L.rc,R.lay.rc,by rw[hz,←hw,List.length_map,List.length_map],fun i hi=>(R.slot hi).1,fun i hi=>(R.slot hi).2.1,fun i hi hu => ?_,w1,fun k hk h2 => ?_⟩
 · obtain ⟨a,h1,h2⟩:=(R.slot hi).2.2.1 hu
   obtain ⟨m,hm,e⟩:=List.getElem_of_mem ((zd9 R.V.inc).1 h1)
   have g1:m<(za3 w).length:=by rw[←hw,List.length_map];exact hm
   have g2:m<(za3 z).length:=by rw[hz,List.length_map];exact hm
   have e1:(za3 w)[m]=(slAt w i).at_:=by
     have:(za3 w)[m]? = some (slAt w i).at_:=by rw[←hw,List.getElem?_map,List.getElem?_eq_getElem hm,e];rfl
     rw[List.getElem?_eq_getElem g1] at this
     exact Option.some.inj this
   have e2:(za3 z)[m]=(slAt z i).at_:=by
     have:(za3 z)[m]? = some (slAt z i).at_:=by rw[hz,List.getElem?_map,List.getElem?_eq_getElem hm,e,h2];rfl
     rw[List.getElem?_eq_getElem g2] at this
     exact Option.some.inj this
   exact ⟨m,g1,g2,zCh (zjy R.L.rc) g1 e1 _ g1 (Nat.le_refl _),e2⟩
 · obtain ⟨-,h3⟩:=R.hp
   rw[h3] at w2
   have hl:(zdv z).length=(mvB (cpL w) 128).length+(frB w.length (cpT w)).length:=by rw[w2,List.length_append]
   have hf:(frB w.length (cpT w)).length≤1:=by unfold frB;split <;> simp
   rcases Nat.lt_or_ge k (mvB (cpL w) 128).length with h5|h5
   · have e:(zdv z)[k]? = some (mvB (cpL w) 128)[k]:=by rw[w2,List.getElem?_append_left h5,List.getElem?_eq_getElem h5]
     rw[List.getElem?_eq_getElem hk] at e
     rw[Option.some.inj e] at h2
     obtain ⟨b0,-,h6,tt,h7,-⟩:=zk1 (List.getElem_mem h5)
     rw[h7] at h2
     unfold zax at h6
     rw[Bool.and_eq_true,beq_iff_eq] at h6
     dsimp only at h2
     omega
   · omega
theorem Lay.ch {w:List Nat} {t:Nat} (L:Lay w t) (ho:∀ v ∈ w,v<18446744073709551616):ChF w (cpZ w)∧cpZ (cpZ w)=cpZ w∧Lay (cpZ w) t∧(cpZ w).length=w.length∧∀ v ∈ cpZ w,v<18446744073709551616:=
 ⟨(L.cp ho).ch,(L.cp ho).again (L.lt ho),(L.cp ho).lay,(L.desc ho).1.len,L.lt ho⟩
end Go.Proofs.YtpcajamacpbjcaaGreat
