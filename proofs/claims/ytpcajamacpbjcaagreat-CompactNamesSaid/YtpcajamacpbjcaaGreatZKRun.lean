/- Texts laid together: RcRun Cmp. -/
import Derived.Test.YtpcajamacpbjcaaGreatZKStg1
import Derived.Test.YtpcajamacpbjcaaGreatZKRs
set_option maxHeartbeats 16000000
set_option linter.all false
namespace Go.Proofs.YtpcajamacpbjcaaGreat
open Go.RowKit
variable {ws x:List Nat}{f:Nat}
def mE (ws:List Nat):Nat->List Bool->List Nat->Option (Option (List Bool))
 | 0,_,_=>none
 | _+1,seen,[]=>some (some seen)
 | f+1,seen,a::s=>if tb ws a=0 then some none else if seen[a]? = some true then mE ws f seen s else mE ws f (seen.set a true) ((me ws a (flds ws a).length).reverse++s)
theorem qo :∀f b s,Wk ws b s.reverse->(mE ws f b s=some none->¬ oa ws)/\∀S,mE ws f b s=some (some S)->Wk ws S []:=by
 intro f
 induction f with
 | zero=>intro b s _;exact⟨λh=>(by cases h),λS h=>(by cases h)⟩
 | succ f ih =>
  intro b s h;cases s with
  | nil =>
   refine⟨λc=>(by cases c),λS c=>?_⟩;simp only[mE,Option.some.injEq] at c;subst c
   simpa using h
  | cons a s =>
   rw[List.reverse_cons] at h;simp only[mE];by_cases d:tb ws a=0
   .rw[if_pos d];exact⟨λ_=>h.bad d,λS c=>by cases c⟩
   rw[if_neg d];by_cases c:b[a]? = some true
   .rw[if_pos c];exact ih _ _ (h.old c)
   rw[if_neg c];refine ih _ _ ?_;rw[List.reverse_append,List.reverse_reverse];exact h.new_ d
def Df (ws:List Nat) (f:Nat):Option (Option (List Bool)):=mE ws f (List.replicate ws.length false) (sV ws 16).reverse
theorem uQ(ws:List Nat):Wk ws (List.replicate ws.length false) (sV ws 16).reverse.reverse:=by rw[List.reverse_reverse];exact Wk.start ws
theorem rc_run{S:List Bool}(h0:ah ws=0)(hs:slsOk ws=true)(h:Df ws f=some (some S)):aA ws=0/\seenL ws=S/\dU ws=qh S ws.length:=by have b:=(qo f _ _ (uQ ws)).2 S h;have c:aA ws=0:=xH h0 hs b.end_.1;have a:=b.seenL;exact⟨c,a.symm,by rw[dV c,<-a]⟩
theorem GY(h0:ah ws=0)(h:Df ws f=some none):aA ws=50:=by
 have b:=(qo f _ _ (uQ ws)).1 h;unfold aA;rw[if_pos h0];by_cases a:slsOk ws=true
 .rw[if_pos a,if_neg b]
 rw[if_neg a]
theorem rcr_hp{r:Int}(h0:ah ws=r)(h:r≠0):aA ws=r:=by unfold aA;rw[if_neg (by rw[h0];exact h)];exact h0
def tW (f:Nat) (ws:List Nat):Option (Int × List En):=if aw ws=0 then
 (if wd ws 16=1 then (if ah ws=0 then (match Df ws f with
  | some (some S)=>if slsOk ws=true then some (0,ir ((lu S (af ws)).map (wZ ws S)) 2) else some (50,[])
  | some none=>some (50,[])
  | none=>none) else some (ah ws,[]))
 else if wd ws 16=2 then some (if ah ws=0 then (0,ir (aD ws) 3) else (ah ws,[]))
 else if wd ws 16=3 then some (sgFix ws)
 else if wd ws 16=4 then some (sgSld ws) else some (6,[])) else some (aw ws,[])
theorem xw{r:Int × List En}(h:tW f ws=some r):ag ws=r:=by
 unfold tW at h;unfold ag;by_cases g:aw ws=0
 .rw[if_pos g] at h |-;by_cases d:wd ws 16=1
  .rw[if_pos d] at h |-;by_cases a:ah ws=0
   .rw[if_pos a] at h;cases c:Df ws f with
    | none=>rw[c] at h;cases h
    | some o =>
     rw[c] at h;cases o with
     | none =>have:=GY a c;rw[if_neg (by rw[this];decide),this];exact Option.some.inj h
     | some S =>
      dsimp only at h;by_cases b:slsOk ws=true
      .rw[if_pos b] at h;obtain⟨k,l,-⟩:=rc_run a b c;rw[if_pos k,d6 k,l];exact Option.some.inj h
      rw[if_neg b] at h;have:aA ws=50:=by unfold aA;rw[if_pos a,if_neg b]
      rw[if_neg (by rw[this];decide),this];exact Option.some.inj h
   rw[if_neg a] at h;have:=rcr_hp (ws:=ws) rfl a;rw[if_neg (by rw[this];exact a),this];exact Option.some.inj h
  rw[if_neg d] at h |-;by_cases i:wd ws 16=2
  .rw[if_pos i] at h |-;exact Option.some.inj h
  rw[if_neg i] at h |-;by_cases e:wd ws 16=3
  .rw[if_pos e] at h |-;exact Option.some.inj h
  rw[if_neg e] at h |-;by_cases j:wd ws 16=4
  .rw[if_pos j] at h |-;exact Option.some.inj h
  rw[if_neg j] at h |-;exact Option.some.inj h
 rw[if_neg g] at h |-;exact Option.some.inj h
def DS (f:Nat) (x:List Nat):Option (Int × Bool × List En):=match tW f x with
 | none=>none
 | some r=>some (if r.1=6 then (if wd x 16=0 then (0,true,[]) else (el x,false,dm x)) else (r.1,false,r.2))
theorem CR{r:Int × Bool × List En}(h:DS f x=some r):cJ x=r:=by
 unfold DS at h;cases a:tW f x with
 | none=>rw[a] at h;cases h
 | some q =>rw[a] at h;have:=xw a;unfold cJ;rw[this];exact Option.some.inj h
def rsC (f:Nat):Nat->List Nat->Option (Int × List (List En) × List Nat)
 | 0,_=>none
 | k+1,x=>match DS f x with
  | none=>none
  | some (r,d,E)=>if r=0 then (if d=true then some (0,[],x) else (match rsC f k (aj x E) with
   | none=>none
   | some (r2,o,y)=>if r2=0 then some (0,E::o,y) else some (r2,[],[]))) else some (r,[],[])
theorem rsC_ok :∀ {k:Nat} {x:List Nat} {r:Int × List (List En) × List Nat},(∀v∈x,v<18446744073709551616)->rsC f k x=some r->rsE x=r:=by
 intro k
 induction k with
 | zero=>intro x r _ h;cases h
 | succ k ih =>
  intro x r i h;simp only[rsC] at h;cases b:DS f x with
  | none=>rw[b] at h;cases h
  | some q =>
   obtain⟨m,d,E⟩:=q;rw[b] at h;have a:=CR b;dsimp only at h;by_cases c:m=0
   .subst c;rw[if_pos rfl] at h;cases d with
    | true =>rw[if_pos rfl] at h;rw[jH (by rw[a]) (by rw[a])];exact Option.some.inj h
    | false =>
     rw[if_neg (by decide)] at h;rw[iK i (by rw[a]) (by rw[a]),a];dsimp only;have g:=(rS i (by rw[a]) (by rw[a])).2.1;rw[a] at g;cases e:rsC f k (aj x E) with
     | none=>rw[e] at h;cases h
     | some u =>
      obtain⟨l,u2,u3⟩:=u;rw[e] at h;rw[ih g e];dsimp only at h |-;by_cases j:l=0
      .rw[if_pos j] at h |-;exact Option.some.inj h
      rw[if_neg j] at h |-;exact Option.some.inj h
   rw[if_neg c] at h;rw[lK (by rw[a];exact c),a];exact Option.some.inj h
def lT (f k:Nat) (x:List Nat):Option (Int × List (List En) × List Nat):=if aw x=0 then rsC f k x else some (aw x,[],[])
theorem rD{k:Nat}{r:Int × List (List En) × List Nat}(ho:∀v∈x,v<18446744073709551616)(h:lT f k x=some r):ip x=r:=by
 unfold lT at h;unfold ip;by_cases a:aw x=0
 .rw[if_pos a] at h |-;exact rsC_ok ho h
 rw[if_neg a] at h |-;exact Option.some.inj h
end Go.Proofs.YtpcajamacpbjcaaGreat
