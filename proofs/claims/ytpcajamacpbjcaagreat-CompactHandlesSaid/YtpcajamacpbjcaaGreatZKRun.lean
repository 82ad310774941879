/- Texts laid together: RcRun Cmp. -/
import Derived.Test.YtpcajamacpbjcaaGreatZKStg1
import Derived.Test.YtpcajamacpbjcaaGreatZKRs
namespace Go.Proofs.YtpcajamacpbjcaaGreat
open Go.RowKit
def zm1 (ws:List Nat):Nat→List Bool→List Nat→Option (Option (List Bool))
 | 0,_,_=>none
 | _+1,seen,[]=>some (some seen)
 | f+1,seen,a :: s=>if tb ws a=0 then some none else if seen[a]? = some true then zm1 ws f seen s else zm1 ws f (seen.set a true) ((zlt ws a (flds ws a).length).reverse++s)
theorem zrq {ws:List Nat}:∀ f seen s,Wk ws seen s.reverse→(zm1 ws f seen s=some none→¬ zst ws)∧∀ S,zm1 ws f seen s=some (some S)→Wk ws S []:=by
 intro f
 induction f with
 | zero=>intro seen s _;exact ⟨fun h=>(by cases h),fun S h=>(by cases h)⟩
 | succ f ih =>
  intro seen s h
  cases s with
  | nil =>
   refine ⟨fun h1=>(by cases h1),fun S h1 => ?_⟩
   simp only[zm1,Option.some.injEq] at h1
   subst h1
   simpa using h
  | cons a s =>
   rw[List.reverse_cons] at h
   simp only[zm1]
   by_cases h0:tb ws a=0
   · rw[if_pos h0]
     exact ⟨fun _=>h.bad h0,fun S h1=>by cases h1⟩
   · rw[if_neg h0]
     by_cases h1:seen[a]? = some true
     · rw[if_pos h1]
       exact ih _ _ (h.old h1)
     · rw[if_neg h1]
       refine ih _ _ ?_
       rw[List.reverse_append,List.reverse_reverse]
       exact h.new_ h0
def zFu (ws:List Nat) (f:Nat):Option (Option (List Bool)):=zm1 ws f (List.replicate ws.length false) (zti ws 16).reverse
theorem zv3 (ws:List Nat):Wk ws (List.replicate ws.length false) (zti ws 16).reverse.reverse:=by rw[List.reverse_reverse];exact Wk.start ws
theorem rc_run {ws:List Nat} {f:Nat} {S:List Bool} (h0:zae ws=0) (hs:slsOk ws=true) (h:zFu ws f=some (some S)):zap ws=0∧seenL ws=S∧za3 ws=zfx S ws.length:=by
 have hw:=(zrq f _ _ (zv3 ws)).2 S h
 have he:zap ws=0:=zEb h0 hs hw.end_.1
 have hse:=hw.seenL
 exact ⟨he,hse.symm,by rw[zde he,←hse]⟩
theorem zJu {ws:List Nat} {f:Nat} (h0:zae ws=0) (h:zFu ws f=some none):zap ws=50:=by
 have hw:=(zrq f _ _ (zv3 ws)).1 h
 unfold zap
 rw[if_pos h0]
 by_cases hs:slsOk ws=true
 · rw[if_pos hs,if_neg hw]
 · rw[if_neg hs]
theorem rcr_hp {ws:List Nat} {r:Int} (h0:zae ws=r) (h:r≠0):zap ws=r:=by
 unfold zap
 rw[if_neg (by rw[h0];exact h)]
 exact h0
end Go.Proofs.YtpcajamacpbjcaaGreat
namespace Go.Proofs.YtpcajamacpbjcaaGreat
open Go.RowKit
def zvd (f:Nat) (ws:List Nat):Option (Int × List En):=if zao ws=0 then
 (if wd ws 16=1 then (if zae ws=0 then (match zFu ws f with
  | some (some S)=>if slsOk ws=true then some (0,zg1 ((zk5 S (zab ws)).map (zz4 ws S)) 2) else some (50,[])
  | some none=>some (50,[])
  | none=>none) else some (zae ws,[]))
 else if wd ws 16=2 then some (if zae ws=0 then (0,zg1 (za0 ws) 3) else (zae ws,[]))
 else if wd ws 16=3 then some (zdg ws)
 else if wd ws 16=4 then some (zes ws) else some (6,[])) else some (zao ws,[])
theorem zB6 {f:Nat} {ws:List Nat} {r:Int × List En} (h:zvd f ws=some r):zac ws=r:=by
 unfold zvd at h
 unfold zac
 by_cases h0:zao ws=0
 · rw[if_pos h0] at h ⊢
   by_cases p1:wd ws 16=1
   · rw[if_pos p1] at h ⊢
     by_cases h1:zae ws=0
     · rw[if_pos h1] at h
       cases hr:zFu ws f with
       | none=>rw[hr] at h;cases h
       | some o =>
         rw[hr] at h
         cases o with
         | none =>
           have:=zJu h1 hr
           rw[if_neg (by rw[this];decide),this]
           exact Option.some.inj h
         | some S =>
           dsimp only at h
           by_cases hs:slsOk ws=true
           · rw[if_pos hs] at h
             obtain ⟨g1,g2,-⟩:=rc_run h1 hs hr
             rw[if_pos g1,zdz g1,g2]
             exact Option.some.inj h
           · rw[if_neg hs] at h
             have:zap ws=50:=by unfold zap;rw[if_pos h1,if_neg hs]
             rw[if_neg (by rw[this];decide),this]
             exact Option.some.inj h
     · rw[if_neg h1] at h
       have:=rcr_hp (ws:=ws) rfl h1
       rw[if_neg (by rw[this];exact h1),this]
       exact Option.some.inj h
   · rw[if_neg p1] at h ⊢
     by_cases p2:wd ws 16=2
     · rw[if_pos p2] at h ⊢;exact Option.some.inj h
     · rw[if_neg p2] at h ⊢
       by_cases p3:wd ws 16=3
       · rw[if_pos p3] at h ⊢;exact Option.some.inj h
       · rw[if_neg p3] at h ⊢
         by_cases p4:wd ws 16=4
         · rw[if_pos p4] at h ⊢;exact Option.some.inj h
         · rw[if_neg p4] at h ⊢;exact Option.some.inj h
 · rw[if_neg h0] at h ⊢
   exact Option.some.inj h
def zF4 (f:Nat) (x:List Nat):Option (Int × Bool × List En):=match zvd f x with
 | none=>none
 | some r=>some (if r.1=6 then (if wd x 16=0 then (0,true,[]) else (zew x,false,zdx x)) else (r.1,false,r.2))
theorem zEz {f:Nat} {x:List Nat} {r:Int × Bool × List En} (h:zF4 f x=some r):zc8 x=r:=by
 unfold zF4 at h
 cases hs:zvd f x with
 | none=>rw[hs] at h;cases h
 | some q =>
  rw[hs] at h
  have:=zB6 hs
  unfold zc8
  rw[this]
  exact Option.some.inj h
def rsC (f:Nat):Nat→List Nat→Option (Int × List (List En) × List Nat)
 | 0,_=>none
 | k+1,x=>match zF4 f x with
  | none=>none
  | some (r,d,E)=>if r=0 then (if d=true then some (0,[],x) else (match rsC f k (zag x E) with
   | none=>none
   | some (r2,o,y)=>if r2=0 then some (0,E :: o,y) else some (r2,[],[]))) else some (r,[],[])
theorem rsC_ok {f:Nat}:∀ {k:Nat} {x:List Nat} {r:Int × List (List En) × List Nat},(∀ v ∈ x,v<18446744073709551616)→rsC f k x=some r→rsE x=r:=by
 intro k
 induction k with
 | zero=>intro x r _ h;cases h
 | succ k ih =>
  intro x r ho h
  simp only[rsC] at h
  cases hn:zF4 f x with
  | none=>rw[hn] at h;cases h
  | some q =>
   obtain ⟨q1,d,E⟩:=q
   rw[hn] at h
   have hq:=zEz hn
   dsimp only at h
   by_cases h0:q1=0
   · subst h0
     rw[if_pos rfl] at h
     cases d with
     | true =>
      rw[if_pos rfl] at h
      rw[zis (by rw[hq]) (by rw[hq])]
      exact Option.some.inj h
     | false =>
      rw[if_neg (by decide)] at h
      rw[zhj ho (by rw[hq]) (by rw[hq]),hq]
      dsimp only
      have hl:=(zyd ho (by rw[hq]) (by rw[hq])).2.1
      rw[hq] at hl
      cases hr:rsC f k (zag x E) with
      | none=>rw[hr] at h;cases h
      | some u =>
       obtain ⟨u1,u2,u3⟩:=u
       rw[hr] at h
       rw[ih hl hr]
       dsimp only at h ⊢
       by_cases hu:u1=0
       · rw[if_pos hu] at h ⊢;exact Option.some.inj h
       · rw[if_neg hu] at h ⊢;exact Option.some.inj h
   · rw[if_neg h0] at h
     rw[zk7 (by rw[hq];exact h0),hq]
     exact Option.some.inj h
def zoo (f k:Nat) (x:List Nat):Option (Int × List (List En) × List Nat):=if zao x=0 then rsC f k x else some (zao x,[],[])
theorem zCz {f k:Nat} {x:List Nat} {r:Int × List (List En) × List Nat} (ho:∀ v ∈ x,v<18446744073709551616) (h:zoo f k x=some r):zgv x=r:=by
 unfold zoo at h
 unfold zgv
 by_cases h0:zao x=0
 · rw[if_pos h0] at h ⊢;exact rsC_ok ho h
 · rw[if_neg h0] at h ⊢;exact Option.some.inj h
end Go.Proofs.YtpcajamacpbjcaaGreat
