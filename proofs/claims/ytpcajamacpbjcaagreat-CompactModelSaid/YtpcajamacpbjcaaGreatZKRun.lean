/- Texts laid together: RcRun Cmp. -/
import Derived.Test.YtpcajamacpbjcaaGreatZKStg1
import Derived.Test.YtpcajamacpbjcaaGreatZKRs
set_option maxHeartbeats 16000000
set_option linter.all false
namespace Go.Proofs.YtpcajamacpbjcaaGreat
open Go.RowKit
variable {ws x:List Nat}{f:Nat}
def mA (ws:List Nat):Nat->List Bool->List Nat->Option (Option (List Bool))
 | 0,_,_=>none
 | _+1,seen,[]=>some (some seen)
 | f+1,seen,a::s=>if tb ws a=0 then some none else if seen[a]? = some true then mA ws f seen s else mA ws f (seen.set a true) ((lP ws a (flds ws a).length).reverse++s)
theorem qX :∀f b s,Wk ws b s.reverse->(mA ws f b s=some none->¬ rS ws)/\∀S,mA ws f b s=some (some S)->Wk ws S []:=by
 intro f
 induction f with
 | zero=>intro b s _;exact⟨λh=>(by cases h),λS h=>(by cases h)⟩
 | succ f ih =>
  intro b s h;cases s with
  | nil =>
   refine⟨λc=>(by cases c),λS c=>?_⟩;simp only[mA,Option.some.injEq] at c;subst c
   simpa using h
  | cons a s =>
   rw[List.reverse_cons] at h;simp only[mA];by_cases d:tb ws a=0
   .rw[if_pos d];exact⟨λ_=>h.bad d,λS c=>by cases c⟩
   rw[if_neg d];by_cases c:b[a]? = some true
   .rw[if_pos c];exact ih _ _ (h.old c)
   rw[if_neg c];refine ih _ _ ?_;rw[List.reverse_append,List.reverse_reverse];exact h.new_ d
def D7 (ws:List Nat) (f:Nat):Option (Option (List Bool)):=mA ws f (List.replicate ws.length false) (tz ws 16).reverse
theorem ul(ws:List Nat):Wk ws (List.replicate ws.length false) (tz ws 16).reverse.reverse:=by rw[List.reverse_reverse];exact Wk.start ws
theorem rc_run{S:List Bool}(h0:af ws=0)(hs:slsOk ws=true)(h:D7 ws f=some (some S)):ax ws=0/\seenL ws=S/\aR ws=fB S ws.length:=by have c:=(qX f _ _ (ul ws)).2 S h;have b:ax ws=0:=BV h0 hs c.end_.1;have a:=c.seenL;exact⟨b,a.symm,by rw[cU b,<-a]⟩
theorem FO(h0:af ws=0)(h:D7 ws f=some none):ax ws=50:=by
 have b:=(qX f _ _ (ul ws)).1 h;unfold ax;rw[if_pos h0];by_cases a:slsOk ws=true
 .rw[if_pos a,if_neg b]
 rw[if_neg a]
theorem rcr_hp{r:Int}(h0:af ws=r)(h:r≠0):ax ws=r:=by unfold ax;rw[if_neg (by rw[h0];exact h)];exact h0
def uc (f:Nat) (ws:List Nat):Option (Int × List En):=if av ws=0 then
 (if wd ws 16=1 then (if af ws=0 then (match D7 ws f with
  | some (some S)=>if slsOk ws=true then some (0,gN ((lf S (aa ws)).map (xY ws S)) 2) else some (50,[])
  | some none=>some (50,[])
  | none=>none) else some (af ws,[]))
 else if wd ws 16=2 then some (if af ws=0 then (0,gN (aH ws) 3) else (af ws,[]))
 else if wd ws 16=3 then some (cZ ws)
 else if wd ws 16=4 then some (ey ws) else some (6,[])) else some (av ws,[])
theorem Ba{r:Int × List En}(h:uc f ws=some r):ae ws=r:=by
 unfold uc at h;unfold ae;by_cases k:av ws=0
 .rw[if_pos k] at h |-;by_cases j:wd ws 16=1
  .rw[if_pos j] at h |-;by_cases a:af ws=0
   .rw[if_pos a] at h;cases c:D7 ws f with
    | none=>rw[c] at h;cases h
    | some o =>
     rw[c] at h;cases o with
     | none =>have:=FO a c;rw[if_neg (by rw[this];decide),this];exact Option.some.inj h
     | some S =>
      dsimp only at h;by_cases b:slsOk ws=true
      .rw[if_pos b] at h;obtain⟨i,l,-⟩:=rc_run a b c;rw[if_pos i,dx i,l];exact Option.some.inj h
      rw[if_neg b] at h;have:ax ws=50:=by unfold ax;rw[if_pos a,if_neg b]
      rw[if_neg (by rw[this];decide),this];exact Option.some.inj h
   rw[if_neg a] at h;have:=rcr_hp (ws:=ws) rfl a;rw[if_neg (by rw[this];exact a),this];exact Option.some.inj h
  rw[if_neg j] at h |-;by_cases d:wd ws 16=2
  .rw[if_pos d] at h |-;exact Option.some.inj h
  rw[if_neg d] at h |-;by_cases e:wd ws 16=3
  .rw[if_pos e] at h |-;exact Option.some.inj h
  rw[if_neg e] at h |-;by_cases g:wd ws 16=4
  .rw[if_pos g] at h |-;exact Option.some.inj h
  rw[if_neg g] at h |-;exact Option.some.inj h
 rw[if_neg k] at h |-;exact Option.some.inj h
def DS (f:Nat) (x:List Nat):Option (Int × Bool × List En):=match uc f x with
 | none=>none
 | some r=>some (if r.1=6 then (if wd x 16=0 then (0,true,[]) else (eF x,false,du x)) else (r.1,false,r.2))
theorem CV{r:Int × Bool × List En}(h:DS f x=some r):cQ x=r:=by
 unfold DS at h;cases a:uc f x with
 | none=>rw[a] at h;cases h
 | some q =>rw[a] at h;have:=Ba a;unfold cQ;rw[this];exact Option.some.inj h
def rsC (f:Nat):Nat->List Nat->Option (Int × List (List En) × List Nat)
 | 0,_=>none
 | k+1,x=>match DS f x with
  | none=>none
  | some (r,d,E)=>if r=0 then (if d=true then some (0,[],x) else (match rsC f k (ak x E) with
   | none=>none
   | some (r2,o,y)=>if r2=0 then some (0,E::o,y) else some (r2,[],[]))) else some (r,[],[])
theorem rsC_ok :∀ {k:Nat} {x:List Nat} {r:Int × List (List En) × List Nat},(∀v∈x,v<18446744073709551616)->rsC f k x=some r->rsE x=r:=by
 intro k
 induction k with
 | zero=>intro x r _ h;cases h
 | succ k ih =>
  intro x r i h;simp only[rsC] at h;cases b:DS f x with
  | none=>rw[b] at h;cases h
  | some q =>
   obtain⟨m,d,E⟩:=q;rw[b] at h;have a:=CV b;dsimp only at h;by_cases e:m=0
   .subst e;rw[if_pos rfl] at h;cases d with
    | true =>rw[if_pos rfl] at h;rw[jq (by rw[a]) (by rw[a])];exact Option.some.inj h
    | false =>
     rw[if_neg (by decide)] at h;rw[im i (by rw[a]) (by rw[a]),a];dsimp only;have j:=(vG i (by rw[a]) (by rw[a])).2.1;rw[a] at j;cases c:rsC f k (ak x E) with
     | none=>rw[c] at h;cases h
     | some u =>
      obtain⟨l,u2,u3⟩:=u;rw[c] at h;rw[ih j c];dsimp only at h |-;by_cases g:l=0
      .rw[if_pos g] at h |-;exact Option.some.inj h
      rw[if_neg g] at h |-;exact Option.some.inj h
   rw[if_neg e] at h;rw[kR (by rw[a];exact e),a];exact Option.some.inj h
def om (f k:Nat) (x:List Nat):Option (Int × List (List En) × List Nat):=if av x=0 then rsC f k x else some (av x,[],[])
theorem yz{k:Nat}{r:Int × List (List En) × List Nat}(ho:∀v∈x,v<18446744073709551616)(h:om f k x=some r):gD x=r:=by
 unfold om at h;unfold gD;by_cases a:av x=0
 .rw[if_pos a] at h |-;exact rsC_ok ho h
 rw[if_neg a] at h |-;exact Option.some.inj h
end Go.Proofs.YtpcajamacpbjcaaGreat
