/- Texts laid together: RcRun Cmp. -/
import Derived.Test.YtpcajamacpbjcaaGreatZKStg1
import Derived.Test.YtpcajamacpbjcaaGreatZKRs
set_option maxHeartbeats 16000000
set_option linter.all false
namespace Go.Proofs.YtpcajamacpbjcaaGreat
open Go.RowKit
variable {ws x:List Nat}{f:Nat}
def nS (ws:List Nat):Nat->List Bool->List Nat->Option (Option (List Bool))
 | 0,_,_=>none
 | _+1,seen,[]=>some (some seen)
 | f+1,seen,a::s=>if tb ws a=0 then some none else if seen[a]? = some true then nS ws f seen s else nS ws f (seen.set a true) ((mz ws a (flds ws a).length).reverse++s)
theorem rG :∀f b s,Wk ws b s.reverse->(nS ws f b s=some none->¬ pd ws)/\∀S,nS ws f b s=some (some S)->Wk ws S []:=by
 intro f
 induction f with
 | zero=>intro b s _;exact⟨λh=>(by cases h),λS h=>(by cases h)⟩
 | succ f ih =>
  intro b s h;cases s with
  | nil =>
   refine⟨λc=>(by cases c),λS c=>?_⟩;simp only[nS,Option.some.injEq] at c;subst c
   simpa using h
  | cons a s =>
   rw[List.reverse_cons] at h;simp only[nS];by_cases d:tb ws a=0
   .rw[if_pos d];exact⟨λ_=>h.bad d,λS c=>by cases c⟩
   rw[if_neg d];by_cases c:b[a]? = some true
   .rw[if_pos c];exact ih _ _ (h.old c)
   rw[if_neg c];refine ih _ _ ?_;rw[List.reverse_append,List.reverse_reverse];exact h.new_ d
def Dy (ws:List Nat) (f:Nat):Option (Option (List Bool)):=nS ws f (List.replicate ws.length false) (tr ws 16).reverse
theorem vB(ws:List Nat):Wk ws (List.replicate ws.length false) (tr ws 16).reverse.reverse:=by rw[List.reverse_reverse];exact Wk.start ws
theorem rc_run{S:List Bool}(h0:ah ws=0)(hs:slsOk ws=true)(h:Dy ws f=some (some S)):aC ws=0/\seenL ws=S/\eh ws=rk S ws.length:=by have b:=(rG f _ _ (vB ws)).2 S h;have c:aC ws=0:=Bc h0 hs b.end_.1;have a:=b.seenL;exact⟨c,a.symm,by rw[ei c,<-a]⟩
theorem Ia(h0:ah ws=0)(h:Dy ws f=some none):aC ws=50:=by
 have b:=(rG f _ _ (vB ws)).1 h;unfold aC;rw[if_pos h0];by_cases a:slsOk ws=true
 .rw[if_pos a,if_neg b]
 rw[if_neg a]
theorem rcr_hp{r:Int}(h0:ah ws=r)(h:r≠0):aC ws=r:=by unfold aC;rw[if_neg (by rw[h0];exact h)];exact h0
def vn (f:Nat) (ws:List Nat):Option (Int × List En):=if az ws=0 then
 (if wd ws 16=1 then (if ah ws=0 then (match Dy ws f with
  | some (some S)=>if slsOk ws=true then some (0,ie ((lw S (af ws)).map (yE ws S)) 2) else some (50,[])
  | some none=>some (50,[])
  | none=>none) else some (ah ws,[]))
 else if wd ws 16=2 then some (if ah ws=0 then (0,ie (ay ws) 3) else (ah ws,[]))
 else if wd ws 16=3 then some (sgFix ws)
 else if wd ws 16=4 then some (sgSld ws) else some (6,[])) else some (az ws,[])
theorem CW{r:Int × List En}(h:vn f ws=some r):ae ws=r:=by
 unfold vn at h;unfold ae;by_cases g:az ws=0
 .rw[if_pos g] at h |-;by_cases k:wd ws 16=1
  .rw[if_pos k] at h |-;by_cases a:ah ws=0
   .rw[if_pos a] at h;cases c:Dy ws f with
    | none=>rw[c] at h;cases h
    | some o =>
     rw[c] at h;cases o with
     | none =>have:=Ia a c;rw[if_neg (by rw[this];decide),this];exact Option.some.inj h
     | some S =>
      dsimp only at h;by_cases b:slsOk ws=true
      .rw[if_pos b] at h;obtain⟨d,l,-⟩:=rc_run a b c;rw[if_pos d,dd d,l];exact Option.some.inj h
      rw[if_neg b] at h;have:aC ws=50:=by unfold aC;rw[if_pos a,if_neg b]
      rw[if_neg (by rw[this];decide),this];exact Option.some.inj h
   rw[if_neg a] at h;have:=rcr_hp (ws:=ws) rfl a;rw[if_neg (by rw[this];exact a),this];exact Option.some.inj h
  rw[if_neg k] at h |-;by_cases j:wd ws 16=2
  .rw[if_pos j] at h |-;exact Option.some.inj h
  rw[if_neg j] at h |-;by_cases i:wd ws 16=3
  .rw[if_pos i] at h |-;exact Option.some.inj h
  rw[if_neg i] at h |-;by_cases e:wd ws 16=4
  .rw[if_pos e] at h |-;exact Option.some.inj h
  rw[if_neg e] at h |-;exact Option.some.inj h
 rw[if_neg g] at h |-;exact Option.some.inj h
def EZ (f:Nat) (x:List Nat):Option (Int × Bool × List En):=match vn f x with
 | none=>none
 | some r=>some (if r.1=6 then (if wd x 16=0 then (0,true,[]) else (el x,false,dl x)) else (r.1,false,r.2))
theorem Ew{r:Int × Bool × List En}(h:EZ f x=some r):cJ x=r:=by
 unfold EZ at h;cases a:vn f x with
 | none=>rw[a] at h;cases h
 | some q =>rw[a] at h;have:=CW a;unfold cJ;rw[this];exact Option.some.inj h
def rsC (f:Nat):Nat->List Nat->Option (Int × List (List En) × List Nat)
 | 0,_=>none
 | k+1,x=>match EZ f x with
  | none=>none
  | some (r,d,E)=>if r=0 then (if d=true then some (0,[],x) else (match rsC f k (ak x E) with
   | none=>none
   | some (r2,o,y)=>if r2=0 then some (0,E::o,y) else some (r2,[],[]))) else some (r,[],[])
theorem rsC_ok :∀ {k:Nat} {x:List Nat} {r:Int × List (List En) × List Nat},(∀v∈x,v<18446744073709551616)->rsC f k x=some r->rsE x=r:=by
 intro k
 induction k with
 | zero=>intro x r _ h;cases h
 | succ k ih =>
  intro x r g h;simp only[rsC] at h;cases c:EZ f x with
  | none=>rw[c] at h;cases h
  | some q =>
   obtain⟨m,d,E⟩:=q;rw[c] at h;have a:=Ew c;dsimp only at h;by_cases b:m=0
   .subst b;rw[if_pos rfl] at h;cases d with
    | true =>rw[if_pos rfl] at h;rw[jP (by rw[a]) (by rw[a])];exact Option.some.inj h
    | false =>
     rw[if_neg (by decide)] at h;rw[iR g (by rw[a]) (by rw[a]),a];dsimp only;have i:=(si g (by rw[a]) (by rw[a])).2.1;rw[a] at i;cases e:rsC f k (ak x E) with
     | none=>rw[e] at h;cases h
     | some u =>
      obtain⟨l,u2,u3⟩:=u;rw[e] at h;rw[ih i e];dsimp only at h |-;by_cases j:l=0
      .rw[if_pos j] at h |-;exact Option.some.inj h
      rw[if_neg j] at h |-;exact Option.some.inj h
   rw[if_neg b] at h;rw[lV (by rw[a];exact b),a];exact Option.some.inj h
def pu (f k:Nat) (x:List Nat):Option (Int × List (List En) × List Nat):=if az x=0 then rsC f k x else some (az x,[],[])
theorem CM{k:Nat}{r:Int × List (List En) × List Nat}(ho:∀v∈x,v<18446744073709551616)(h:pu f k x=some r):gU x=r:=by
 unfold pu at h;unfold gU;by_cases a:az x=0
 .rw[if_pos a] at h |-;exact rsC_ok ho h
 rw[if_neg a] at h |-;exact Option.some.inj h
end Go.Proofs.YtpcajamacpbjcaaGreat
