/- Putting entries into a device: what the closure of replay.Put does. -/
import Derived.Test.YtpcajamacpbjcaaGreatZGA
import Derived.Test.YtpcajamacpbjcaaGreatZKLy1
import Derived.Test.YtpcajamacpbjcaaGreatZKWnt
import Derived.Shelf.Spec.SlicesInsertGrow
import Derived.Test.YtpcajamacpbjcaaGreatZKCo
set_option maxHeartbeats 16000000
set_option linter.all false
namespace Go.Proofs.YtpcajamacpbjcaaGreat
open Go.RowKit Go.Lib
variable {a:Act}{P:Program}{w:World}
def Two (w w':World) (a b:Nat):Prop:=∃w1,w.grownBy w1 (some a)/\w1.grownBy w' (some b)
theorem lA{op:Oper}{K:Act->World->Prop}{Q:Exit->Act->World->Prop}(ty:TypeId)(x y:Operand)(ho:op.op=.store ty x y)(g:Nat)(t:TypeId)(cs0 cs:Array Value)(hx:a.eval x=.pointer (some ⟨g,0,none⟩))(hy:a.eval y=.agg cs)(hb:Bx w g t cs0)(hs:cs.size=cs0.size)(hi:(P.info? ty).map (·.size)=some cs.size)(h1:cs.all (·.oneCell')=true)(h:∀W',Bx W' g t cs->oo w W' g->K (a.put op.dst undef) W'):op.wp P a w K Q:=by
 have c:w.there g 0 cs.size:=by rw[hs];exact kk hb
 exact wp_store_mid ty x y ho g 0 cs hx hy c hi h1 (h _ (fE hb hs) ⟨fU _ _ _,λg' b=>jL b _ _ _,λB d=>cP d _ (kqk _ _)⟩)
theorem ko{o:Oper}(ty:TypeId)(x:Operand)(ho:o.op=.load ty x)(g:Nat)(hx:a.eval x=.pointer (some ⟨g,0,none⟩))(t:TypeId)(cs:Array Value)(d:TypeDesc)(hb:Bx w g t cs)(hu:P.underlying ty=some d)(hd:(match d with | .struct _ | .array _ _=>true | _=>false)=true)(hi:(P.info? ty).map (·.size)=some cs.size):(execOp a.eval o).run P w=.ok (.value (.agg cs)) w:=by have b:=run_loadVar_row w g t ty cs (0,0) d hb hu hd hi;unfold execOp;simp only[ho,hx,Instr.loadAt,Instr.sureAddr,Sem.run_bind,Sem.run_pure,Result.andThen_ok,b]
section
variable {B H:Nat} {w w':World} {A DA:Option Addr} {n c m dc:Nat} {im:List Nat} {dw:List Dw}
end
end Go.Proofs.YtpcajamacpbjcaaGreat
