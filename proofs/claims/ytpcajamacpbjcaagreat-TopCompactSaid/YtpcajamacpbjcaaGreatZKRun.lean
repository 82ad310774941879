/- Texts laid together: RcRun Cmp. -/
import Derived.Test.YtpcajamacpbjcaaGreatZKStg1
import Derived.Test.YtpcajamacpbjcaaGreatZKRs
set_option maxHeartbeats 16000000
set_option linter.all false
namespace Go.Proofs.YtpcajamacpbjcaaGreat
open Go.RowKit
variable {ws:List Nat}{f:Nat}
def oB (ws:List Nat):Nat->List Bool->List Nat->Option (Option (List Bool))
 | 0,_,_=>none
 | _+1,seen,[]=>some (some seen)
 | f+1,seen,a::s=>if tb ws a=0 then some none else if seen[a]? = some true then oB ws f seen s else oB ws f (seen.set a true) ((nb ws a (flds ws a).length).reverse++s)
theorem tz :∀f b s,Wk ws b s.reverse->(oB ws f b s=some none->¬ qh ws)/\∀S,oB ws f b s=some (some S)->Wk ws S []:=by
 intro f
 induction f with
 | zero=>intro b s _;exact⟨λh=>(by cases h),λS h=>(by cases h)⟩
 | succ f ih =>
  intro b s h;cases s with
  | nil =>
   refine⟨λc=>(by cases c),λS c=>?_⟩;simp only[oB,Option.some.injEq] at c;subst c
   simpa using h
  | cons a s =>
   rw[List.reverse_cons] at h;simp only[oB];by_cases d:tb ws a=0
   .rw[if_pos d];exact⟨λ_=>h.bad d,λS c=>by cases c⟩
   rw[if_neg d];by_cases c:b[a]? = some true
   .rw[if_pos c];exact ih _ _ (h.old c)
   rw[if_neg c];refine ih _ _ ?_;rw[List.reverse_append,List.reverse_reverse];exact h.new_ d
def E3 (ws:List Nat) (f:Nat):Option (Option (List Bool)):=oB ws f (List.replicate ws.length false) (uR ws 16).reverse
theorem wi(ws:List Nat):Wk ws (List.replicate ws.length false) (uR ws 16).reverse.reverse:=by rw[List.reverse_reverse];exact Wk.start ws
theorem rc_run{S:List Bool}(h0:aj ws=0)(hs:slsOk ws=true)(h:E3 ws f=some (some S)):aC ws=0/\seenL ws=S/\dm ws=s7 S ws.length:=by have c:=(tz f _ _ (wi ws)).2 S h;have b:aC ws=0:=DQ h0 hs c.end_.1;have a:=c.seenL;exact⟨b,a.symm,by rw[eF b,<-a]⟩
theorem IR(h0:aj ws=0)(h:E3 ws f=some none):aC ws=50:=by
 have b:=(tz f _ _ (wi ws)).1 h;unfold aC;rw[if_pos h0];by_cases a:slsOk ws=true
 .rw[if_pos a,if_neg b]
 rw[if_neg a]
theorem rcr_hp{r:Int}(h0:aj ws=r)(h:r≠0):aC ws=r:=by unfold aC;rw[if_neg (by rw[h0];exact h)];exact h0
def ti (f:Nat) (ws:List Nat):Option (Int × List En):=if ax ws=0 then
 (if wd ws 16=1 then (if aj ws=0 then (match E3 ws f with
  | some (some S)=>if slsOk ws=true then some (0,iZ ((mt S (ah ws)).map (zD ws S)) 2) else some (50,[])
  | some none=>some (50,[])
  | none=>none) else some (aj ws,[]))
 else if wd ws 16=2 then some (if aj ws=0 then (0,iZ (aK ws) 3) else (aj ws,[]))
 else if wd ws 16=3 then some (sgFix ws)
 else if wd ws 16=4 then some (sgSld ws) else some (6,[])) else some (ax ws,[])
theorem C3{r:Int × List En}(h:ti f ws=some r):ag ws=r:=by
 unfold ti at h;unfold ag;by_cases j:ax ws=0
 .rw[if_pos j] at h |-;by_cases g:wd ws 16=1
  .rw[if_pos g] at h |-;by_cases a:aj ws=0
   .rw[if_pos a] at h;cases b:E3 ws f with
    | none=>rw[b] at h;cases h
    | some o =>
     rw[b] at h;cases o with
     | none =>have:=IR a b;rw[if_neg (by rw[this];decide),this];exact Option.some.inj h
     | some S =>
      dsimp only at h;by_cases c:slsOk ws=true
      .rw[if_pos c] at h;obtain⟨k,l,-⟩:=rc_run a c b;rw[if_pos k,dU k,l];exact Option.some.inj h
      rw[if_neg c] at h;have:aC ws=50:=by unfold aC;rw[if_pos a,if_neg c]
      rw[if_neg (by rw[this];decide),this];exact Option.some.inj h
   rw[if_neg a] at h;have:=rcr_hp (ws:=ws) rfl a;rw[if_neg (by rw[this];exact a),this];exact Option.some.inj h
  rw[if_neg g] at h |-;by_cases d:wd ws 16=2
  .rw[if_pos d] at h |-;exact Option.some.inj h
  rw[if_neg d] at h |-;by_cases i:wd ws 16=3
  .rw[if_pos i] at h |-;exact Option.some.inj h
  rw[if_neg i] at h |-;by_cases e:wd ws 16=4
  .rw[if_pos e] at h |-;exact Option.some.inj h
  rw[if_neg e] at h |-;exact Option.some.inj h
 rw[if_neg j] at h |-;exact Option.some.inj h
def rsNxC (f:Nat) (x:List Nat):Option (Int × Bool × List En):=match ti f x with
 | none=>none
 | some r=>some (if r.1=6 then (if wd x 16=0 then (0,true,[]) else (dK x,false,dp x)) else (r.1,false,r.2))
def rsC (f:Nat):Nat->List Nat->Option (Int × List (List En) × List Nat)
 | 0,_=>none
 | k+1,x=>match rsNxC f x with
  | none=>none
  | some (r,d,E)=>if r=0 then (if d=true then some (0,[],x) else (match rsC f k (ai x E) with
   | none=>none
   | some (r2,o,y)=>if r2=0 then some (0,E::o,y) else some (r2,[],[]))) else some (r,[],[])
def sgC (f p:Nat):Nat->List Nat->Option (Int × List (List En) × List Nat)
 | 0,_=>none
 | k+1,x=>if wd x 16=p then (match ti f x with
  | none=>none
  | some (r,E)=>if r=6 then some (0,[],x) else if r=0 then (match sgC f p k (ai x E) with
   | none=>none
   | some (r2,o,y)=>if r2=0 then some (0,E::o,y) else some (r2,[],[])) else some (r,[],[])) else some (0,[],x)
theorem sgC_ok{p:Nat}:∀ {k:Nat} {x:List Nat} {r:Int × List (List En) × List Nat},(∀v∈x,v<18446744073709551616)->sgC f p k x=some r->cA p x=r:=by
 intro k
 induction k with
 | zero=>intro x r _ h;cases h
 | succ k ih =>
  intro x r j h;simp only[sgC] at h;by_cases b:wd x 16=p
  .rw[if_pos b] at h;cases d:ti f x with
   | none=>rw[d] at h;cases h
   | some q =>
    obtain⟨l,E⟩:=q;rw[d] at h;have a:=C3 d;dsimp only at h;by_cases c:l=6
    .rw[if_pos c] at h;rw[iD b (by rw[a];exact c)];exact Option.some.inj h
    rw[if_neg c] at h;by_cases g:l=0
    .subst g;rw[if_pos rfl] at h;rw[dt j b (by rw[a]),a];dsimp only;have i:=dA j (by rw[a]);rw[a] at i;cases e:sgC f p k (ai x E) with
     | none=>rw[e] at h;cases h
     | some u =>
      obtain⟨n,u2,u3⟩:=u;rw[e] at h;rw[ih i e];dsimp only at h |-;by_cases m:n=0
      .rw[if_pos m] at h |-;exact Option.some.inj h
      rw[if_neg m] at h |-;exact Option.some.inj h
    rw[if_neg g] at h;rw[lT b (by rw[a];exact c) (by rw[a];exact g),a];exact Option.some.inj h
  rw[if_neg b] at h;rw[cE b];exact Option.some.inj h
def vm (f k:Nat) (x:List Nat):Option (Int × List (List En) × List Nat):=if ax x=0 then sgC f (wd x 16) k x else some (ax x,[],[])
theorem CH{k:Nat}{x:List Nat}{r:Int × List (List En) × List Nat}(ho:∀v∈x,v<18446744073709551616)(h:vm f k x=some r):jy x=r:=by
 unfold vm at h;unfold jy;by_cases a:ax x=0
 .rw[if_pos a] at h |-;exact sgC_ok ho h
 rw[if_neg a] at h |-;exact Option.some.inj h
end Go.Proofs.YtpcajamacpbjcaaGreat
