/- Texts laid together: RcRun Cmp. -/
import Derived.Test.YtpcajamacpbjcaaGreatZKStg1
import Derived.Test.YtpcajamacpbjcaaGreatZKRs
set_option maxHeartbeats 16000000
set_option linter.all false
namespace Go.Proofs.YtpcajamacpbjcaaGreat
open Go.RowKit
variable {ws x:List Nat}{f:Nat}
def mJ (ws:List Nat):Nat->List Bool->List Nat->Option (Option (List Bool))
 | 0,_,_=>none
 | _+1,seen,[]=>some (some seen)
 | f+1,seen,a::s=>if tb ws a=0 then some none else if seen[a]? = some true then mJ ws f seen s else mJ ws f (seen.set a true) ((mi ws a (flds ws a).length).reverse++s)
theorem qZ :∀f b s,Wk ws b s.reverse->(mJ ws f b s=some none->¬ oB ws)/\∀S,mJ ws f b s=some (some S)->Wk ws S []:=by
 intro f
 induction f with
 | zero=>intro b s _;exact⟨λh=>(by cases h),λS h=>(by cases h)⟩
 | succ f ih =>
  intro b s h;cases s with
  | nil =>
   refine⟨λc=>(by cases c),λS c=>?_⟩;simp only[mJ,Option.some.injEq] at c;subst c
   simpa using h
  | cons a s =>
   rw[List.reverse_cons] at h;simp only[mJ];by_cases d:tb ws a=0
   .rw[if_pos d];exact⟨λ_=>h.bad d,λS c=>by cases c⟩
   rw[if_neg d];by_cases c:b[a]? = some true
   .rw[if_pos c];exact ih _ _ (h.old c)
   rw[if_neg c];refine ih _ _ ?_;rw[List.reverse_append,List.reverse_reverse];exact h.new_ d
def DL (ws:List Nat) (f:Nat):Option (Option (List Bool)):=mJ ws f (List.replicate ws.length false) (tB ws 16).reverse
theorem uX(ws:List Nat):Wk ws (List.replicate ws.length false) (tB ws 16).reverse.reverse:=by rw[List.reverse_reverse];exact Wk.start ws
theorem rc_run{S:List Bool}(h0:ah ws=0)(hs:slsOk ws=true)(h:DL ws f=some (some S)):aA ws=0/\seenL ws=S/\dX ws=rB S ws.length:=by have b:=(qZ f _ _ (uX ws)).2 S h;have c:aA ws=0:=Ap h0 hs b.end_.1;have a:=b.seenL;exact⟨c,a.symm,by rw[dW c,<-a]⟩
theorem GB(h0:ah ws=0)(h:DL ws f=some none):aA ws=50:=by
 have b:=(qZ f _ _ (uX ws)).1 h;unfold aA;rw[if_pos h0];by_cases a:slsOk ws=true
 .rw[if_pos a,if_neg b]
 rw[if_neg a]
theorem rcr_hp{r:Int}(h0:ah ws=r)(h:r≠0):aA ws=r:=by unfold aA;rw[if_neg (by rw[h0];exact h)];exact h0
def uk (f:Nat) (ws:List Nat):Option (Int × List En):=if aw ws=0 then
 (if wd ws 16=1 then (if ah ws=0 then (match DL ws f with
  | some (some S)=>if slsOk ws=true then some (0,iA ((lm S (ag ws)).map (xS ws S)) 2) else some (50,[])
  | some none=>some (50,[])
  | none=>none) else some (ah ws,[]))
 else if wd ws 16=2 then some (if ah ws=0 then (0,iA (aG ws) 3) else (ah ws,[]))
 else if wd ws 16=3 then some (sgFix ws)
 else if wd ws 16=4 then some (sgSld ws) else some (6,[])) else some (aw ws,[])
theorem yi{r:Int × List En}(h:uk f ws=some r):af ws=r:=by
 unfold uk at h;unfold af;by_cases k:aw ws=0
 .rw[if_pos k] at h |-;by_cases j:wd ws 16=1
  .rw[if_pos j] at h |-;by_cases a:ah ws=0
   .rw[if_pos a] at h;cases c:DL ws f with
    | none=>rw[c] at h;cases h
    | some o =>
     rw[c] at h;cases o with
     | none =>have:=GB a c;rw[if_neg (by rw[this];decide),this];exact Option.some.inj h
     | some S =>
      dsimp only at h;by_cases b:slsOk ws=true
      .rw[if_pos b] at h;obtain⟨e,l,-⟩:=rc_run a b c;rw[if_pos e,eg e,l];exact Option.some.inj h
      rw[if_neg b] at h;have:aA ws=50:=by unfold aA;rw[if_pos a,if_neg b]
      rw[if_neg (by rw[this];decide),this];exact Option.some.inj h
   rw[if_neg a] at h;have:=rcr_hp (ws:=ws) rfl a;rw[if_neg (by rw[this];exact a),this];exact Option.some.inj h
  rw[if_neg j] at h |-;by_cases i:wd ws 16=2
  .rw[if_pos i] at h |-;exact Option.some.inj h
  rw[if_neg i] at h |-;by_cases d:wd ws 16=3
  .rw[if_pos d] at h |-;exact Option.some.inj h
  rw[if_neg d] at h |-;by_cases g:wd ws 16=4
  .rw[if_pos g] at h |-;exact Option.some.inj h
  rw[if_neg g] at h |-;exact Option.some.inj h
 rw[if_neg k] at h |-;exact Option.some.inj h
def DD (f:Nat) (x:List Nat):Option (Int × Bool × List En):=match uk f x with
 | none=>none
 | some r=>some (if r.1=6 then (if wd x 16=0 then (0,true,[]) else (el x,false,dx x)) else (r.1,false,r.2))
theorem DG{r:Int × Bool × List En}(h:DD f x=some r):cO x=r:=by
 unfold DD at h;cases a:uk f x with
 | none=>rw[a] at h;cases h
 | some q =>rw[a] at h;have:=yi a;unfold cO;rw[this];exact Option.some.inj h
def rsC (f:Nat):Nat->List Nat->Option (Int × List (List En) × List Nat)
 | 0,_=>none
 | k+1,x=>match DD f x with
  | none=>none
  | some (r,d,E)=>if r=0 then (if d=true then some (0,[],x) else (match rsC f k (am x E) with
   | none=>none
   | some (r2,o,y)=>if r2=0 then some (0,E::o,y) else some (r2,[],[]))) else some (r,[],[])
theorem rsC_ok :∀ {k:Nat} {x:List Nat} {r:Int × List (List En) × List Nat},(∀v∈x,v<18446744073709551616)->rsC f k x=some r->rsE x=r:=by
 intro k
 induction k with
 | zero=>intro x r _ h;cases h
 | succ k ih =>
  intro x r i h;simp only[rsC] at h;cases b:DD f x with
  | none=>rw[b] at h;cases h
  | some q =>
   obtain⟨m,d,E⟩:=q;rw[b] at h;have a:=DG b;dsimp only at h;by_cases e:m=0
   .subst e;rw[if_pos rfl] at h;cases d with
    | true =>rw[if_pos rfl] at h;rw[fJ (by rw[a]) (by rw[a])];exact Option.some.inj h
    | false =>
     rw[if_neg (by decide)] at h;rw[gt i (by rw[a]) (by rw[a]),a];dsimp only;have g:=(qn i (by rw[a]) (by rw[a])).2.1;rw[a] at g;cases c:rsC f k (am x E) with
     | none=>rw[c] at h;cases h
     | some u =>
      obtain⟨l,u2,u3⟩:=u;rw[c] at h;rw[ih g c];dsimp only at h |-;by_cases j:l=0
      .rw[if_pos j] at h |-;exact Option.some.inj h
      rw[if_neg j] at h |-;exact Option.some.inj h
   rw[if_neg e] at h;rw[kc (by rw[a];exact e),a];exact Option.some.inj h
def oY (f k:Nat) (x:List Nat):Option (Int × List (List En) × List Nat):=if aw x=0 then rsC f k x else some (aw x,[],[])
theorem zN{k:Nat}{r:Int × List (List En) × List Nat}(ho:∀v∈x,v<18446744073709551616)(h:oY f k x=some r):fR x=r:=by
 unfold oY at h;unfold fR;by_cases a:aw x=0
 .rw[if_pos a] at h |-;exact rsC_ok ho h
 rw[if_neg a] at h |-;exact Option.some.inj h
end Go.Proofs.YtpcajamacpbjcaaGreat
