/- Texts laid together: Arr Agg App Cut Img SumW FwbQ HdrW HdrX HdrY Walk From NxtP. -/
import Derived.Test.YtpcajamacpbjcaaGreatZKPlain
import Derived.Deep.MidRow
import Derived.Laws.Rows
import Derived.Laws.AppendOwnNone
import Derived.Laws.BitsAllLaws
import Derived.Laws.Shifts
import Derived.PlainAid
import Derived.Deep.RegionHeld3
import Derived.Deep.DrawnRows
namespace Go.Proofs.YtpcajamacpbjcaaGreat
open Lib (hid)
open Go.RowKit
theorem zf8 {w:World} {g:Nat} {t:TypeId} {cs0:Array Value} (h:Bx w g t cs0) {cs:Array Value} (hs:cs.size=cs0.size):Bx (w.setCells g 0 cs.toList) g t cs:=by
 have key:∀ (vs:List Value) (o:Nat) (w:World) (cs0:Array Value),Bx w g t cs0→o+vs.length=cs0.size →
    ∃ cs1,Bx (w.setCells g o vs) g t cs1∧cs1.size=cs0.size∧(∀ j,j<o→cs1[j]? = cs0[j]?)∧∀ j,j<vs.length→cs1[o+j]? = vs[j]?:=by
  intro vs
  induction vs with
  | nil=>intro o w cs0 hb _;exact ⟨cs0,hb,rfl,fun _ _=>rfl,fun j hj=>by simp at hj⟩
  | cons v vs ih =>
    intro o w cs0 hb hl
    rw[List.length_cons] at hl
    obtain ⟨cs1,h1,h2,h3,h4⟩:=ih (o+1) _ _ (hb.set_ o v) (by rw[Array.size_setIfInBounds];omega)
    rw[Array.size_setIfInBounds] at h2
    refine ⟨cs1,h1,h2,fun j hj => ?_,fun j hj => ?_⟩
    · rw[h3 j (by omega),Array.getElem?_setIfInBounds,if_neg (by omega)]
    · cases j with
      | zero=>rw[Nat.add_zero,h3 o (by omega),Array.getElem?_setIfInBounds,if_pos rfl,if_pos (by omega)];rfl
      | succ j=>rw[show o+(j+1)=o+1+j by omega,h4 j (by simpa using hj)];simp
 obtain ⟨cs1,h1,h2,_,h4⟩:=key cs.toList 0 w cs0 h (by simpa using hs)
 have e:cs1=cs:=by
  apply Array.ext_getElem?
  intro i
  by_cases hi:i<cs.size
  · have:=h4 i (by simpa using hi)
    rw[Nat.zero_add] at this
    rw[this];simp
  · rw[Array.getElem?_eq_none (by omega),Array.getElem?_eq_none (by omega)]
 rwa [e] at h1
theorem zdd {B g:Nat} (hg:B≤g) (vs:List Value):∀ {w w1:World} {o:Nat},Below B w w1→Below B w (w1.setCells g o vs):=by
 induction vs with
 | nil=>intro w w1 o h;exact h
 | cons v vs ih=>intro w w1 o h;exact ih (h.setCell (p:=⟨g,o,none⟩) hg v)
theorem zl9 {w:World} {g:Nat} {t:TypeId} {cs:Array Value} (h:Bx w g t cs):w.there g 0 cs.size:=fun j hj=>by
 rw[Nat.zero_add]
 exact ⟨by rw[h.cell j];simp[hj],h.frozen j⟩
theorem zpv {P:Program} {t e:TypeId} {n:Nat} {i:TypeInfo} (ht:P.underlying t=some (.array n e)) (he:P.info? e=some i) (hs:i.size=1) (hag:∀ w,(isAgg e).run P w=.ok false w) {cs:Array Value} {k:Nat} {v:Value} (hk:k<n) (hv:cs[k]? = some v) (w:World) :
  (Instr.index t (.agg cs) (.int .i64 (k:Int))).run P w=.ok v w:=by
 have h0:(0:Int)≤(k:Int)∧(k:Int)<(n:Int):=by omega
 simp[Instr.index,asIntOf,run_underlying ht,h0,sizeOf,typeInfo,he,hs,part,Sem.run_bind,hag,hv,Result.andThen]
 omega
end Go.Proofs.YtpcajamacpbjcaaGreat
namespace Go.Proofs.YtpcajamacpbjcaaGreat
open Lib (hid)
open Go.RowKit
theorem zn6 {g g':Nat} (hne:g'≠g) (vs:List Value):∀ (w:World) (o:Nat),(w.setCells g o vs).heap[g']? = w.heap[g']?:=by
 induction vs with
 | nil=>intro w o;rfl
 | cons v vs ih=>intro w o;simp only[World.setCells];rw[ih];exact Below.heap_setCell w ⟨g,o,none⟩ v g' hne
theorem zg3 {g:Nat} (vs:List Value):∀ (w:World) (o:Nat),(w.setCells g o vs).heap.size=w.heap.size:=by
 induction vs with
 | nil=>intro w o;rfl
 | cons v vs ih=>intro w o;simp only[World.setCells];rw[ih,World.size_setCell]
def zra (w w':World) (g:Nat):Prop:=w'.heap.size=w.heap.size∧(∀ g',g'≠g→w'.heap[g']? = w.heap[g']?)∧∀ B,B≤g→Below B w w'
theorem zra.bx {w w':World} {g g':Nat} {t:TypeId} {cs:Array Value} (h:zra w w' g) (hb:Bx w g' t cs) (hne:g'≠g):Bx w' g' t cs:=(h.2.1 g' hne).trans hb
theorem zra.below {w0 w w':World} {g B:Nat} (h:zra w w' g) (hb:Below B w0 w) (hB:B≤g):Below B w0 w':=hb.trans (h.2.2 B hB)
theorem zai {P:Program} {ops:Array Oper} {rest:List Oper} {op:Oper} {a:Act} {w:World} {Q:Exit→Act→World→Prop} (hgd:op.guard=none) (ty:TypeId) (x y:Operand) (ho:op.op=.store ty x y)
  (g:Nat) (t:TypeId) (cs0 cs:Array Value) (hx:a.eval x=.pointer (some ⟨g,0,none⟩)) (hy:a.eval y=.agg cs) (hb:Bx w g t cs0) (hs:cs.size=cs0.size) (hi:(P.info? ty).map (·.size)=some cs.size) (h1:cs.all (·.oneCell')=true)
  (h:∀ W',Bx W' g t cs→zra w W' g→wpList P ops Q rest (a.put op.dst undef) W'):wpList P ops Q (op :: rest) a w:=by
 have hth:w.there g 0 cs.size:=by rw[hs];exact zl9 hb
 refine wpList_store_mid hgd ty x y ho g 0 cs hx hy hth hi h1 (h _ (zf8 hb hs) ⟨zg3 _ _ _,fun g' hg'=>zn6 hg' _ _ _,fun B hB=>zdd hB _ (Below.refl _ _)⟩)
theorem zbu {P:Program} {ops:Array Oper} {rest:List Oper} {a:Act} {w:World} {Q:Exit→Act→World→Prop} {dst:Option Tmp} {type:TypeId} {pos:String} {after:Array Edge} {guard:Option (Nat × Bool)} (ty:TypeId) (x y:Operand)
 (h:wpList P ops Q ({ dst:=dst,op:=.store ty x y,type:=type,pos:=pos,after:=after,guard:=guard } :: rest) a w):wpList P ops Q ({ dst:=dst,op:=.store ty x y,type:=type,pos:=pos,after:=after,guard:=guard } :: rest) a w:=h
theorem zh9 {P:Program} {ops:Array Oper} {rest:List Oper} {a:Act} {w:World} {Q:Exit→Act→World→Prop} {dst:Option Tmp} {type:TypeId} {pos:String} {after:Array Edge} {guard:Option (Nat × Bool)} (ty:TypeId) (x:Operand)
 (h:wpList P ops Q ({ dst:=dst,op:=.load ty x,type:=type,pos:=pos,after:=after,guard:=guard } :: rest) a w):wpList P ops Q ({ dst:=dst,op:=.load ty x,type:=type,pos:=pos,after:=after,guard:=guard } :: rest) a w:=h
theorem zsf {P:Program} {ops:Array Oper} {rest:List Oper} {op:Oper} {a:Act} {w:World} {Q:Exit→Act→World→Prop} (hgd:op.guard=none) (v:Value) (hv:(execOp a.eval op).run P w=.ok (.value v) w)
  (h:wpList P ops Q rest (a.put op.dst v) w):wpList P ops Q (op :: rest) a w:=
 wpList_plain hgd fun _ hK=>by
  unfold Oper.wp
  rw[hv]
  exact hK _ _ h
theorem zpc (x0 x1 x2 x3:Int) (m:Bool) (n:Int):(#[.int .i64 x0,.int .i64 x1,.int .i64 x2,.int .i64 x3,.bool m,.int .u64 n]:Array Value).all (·.oneCell')=true:=by simp[Value.oneCell']
theorem zpo:(Tryz.prog.info? 55).map (·.size)=some 6:=by kernel_rfl
end Go.Proofs.YtpcajamacpbjcaaGreat
namespace Go.Proofs.YtpcajamacpbjcaaGreat
open Lib (hid)
theorem zy8 {P:Program} (w:World) {ops:Array Oper} {rest:List Oper} {o:Oper} {a:Act} {Q:Exit→Act→World→Prop} (hgd:o.guard=none) (s x:Operand) (t:TypeId)
  (ho:o.op=.call { callee:=.builtin .append,args:=#[s,x],argTypes:=#[t,t] })
  (base:Nat) (e:TypeId) (i:TypeInfo) (z:Value) (size bytes:Nat) (ht:P.underlying t=some (.slice e)) (hi:P.info? e=some i) (hz:i.zero=some z)
  (hsize:i.size=size) (hby:i.bytes=bytes) (hzs:z.cells.size=size) (hsz:0<size)
  (v:Value) (n:Nat) (xs:List Value) (hs:a.eval s=v) (hown:w.ownsRow base e size v n xs)
  (B:Nat) (A:Option Addr) (m c:Nat) (news:List Value) (hx:a.eval x=.slice A m c) (hc0:A=none→c=0) (hl:news.length=m * size) (hr:Rd w B A news) (h1:∀ u ∈ news,u.oneCell'=true)
  (h63:n+m≤maxLen) (hbytes:(n+m) * bytes≤140737488355328) (hbase:base≤w.heap.size)
  (h:∀ v' w',w'.ownsRow base e size v' (n+m) (xs++news)→w.grownBy w' v.ownBlock→wpList P ops Q rest (a.put o.dst v') w'):wpList P ops Q (o :: rest) a w:=by
 cases A with
 | none =>
  have hn:news=[]:=by
    cases news with
    | nil=>rfl
    | cons u us =>
      obtain ⟨b,off,h1,_⟩:=hr (by simp)
      cases h1
  subst hn
  have hm:m=0:=by
    rcases Nat.eq_zero_or_pos m with h0|h0
    · exact h0
    · have:=Nat.mul_pos h0 hsz
      simp at hl;omega
  subst hm
  rw[hc0 rfl] at hx
  exact wpList_append_own_none hgd s x t ho base e i size ht hi v n xs hs hown hx (h v w (by simpa using hown) (World.grownBy.refl w _))
 | some ad =>
  refine wpList_append_own w hgd s x t ho base e i z size bytes ht hi hz hsize hby hzs hsz v n xs hs hown ad m c news hx hl ?_ h1 h63 hbytes hbase (fun v' w' h2 h3 _=>h v' w' h2 h3)
  intro j u hu
  have hne:news≠[]:=by intro e;subst e;simp at hu
  obtain ⟨b,off,e,_,hc⟩:=hr hne
  cases e
  obtain ⟨hj,hv⟩:=List.getElem?_eq_some_iff.1 hu
  have:=hc j hj
  rw[hv] at this
  rw[←this]
  congr 1
  unfold Addr.add
  split
  · simp_all
  · rfl
theorem zjz (w:World) (base:Nat) (e:TypeId) (size:Nat) (hb:base≤w.heap.size):(w.alloc (.cells #[] e)).ownsRow base e size (.slice (some ⟨w.heap.size,0,none⟩) 0 0) 0 []:=by
 refine ⟨by simp,.inr ⟨w.heap.size,0,#[],rfl,hb,heap_alloc_new w _,Nat.le_refl _,by simp[maxLen],by simp,by simp⟩⟩
theorem zd2 {α:Type} {f:α→List Value} (h:∀ x,∀ u ∈ f x,u.oneCell'=true) (l:List α):∀ u ∈ l.flatMap f,u.oneCell'=true:=by
 intro u hu
 obtain ⟨x,_,hx⟩:=List.mem_flatMap.1 hu
 exact h x u hx
theorem Bk.one (b:Bk):∀ u ∈ b.cells,u.oneCell'=true:=by intro u hu;simp only[Bk.cells,List.mem_cons,List.not_mem_nil,or_false] at hu;rcases hu with rfl|rfl|rfl|rfl|rfl|rfl <;> rfl
theorem En.one (b:En):∀ u ∈ b.cells,u.oneCell'=true:=by intro u hu;simp only[En.cells,List.mem_cons,List.not_mem_nil,or_false] at hu;rcases hu with rfl|rfl <;> rfl
theorem zpi (b:Nat):∀ u ∈ zaj b,u.oneCell'=true:=by intro u hu;simp only[zaj,List.mem_cons,List.not_mem_nil,or_false] at hu;subst hu;rfl
theorem ze9 {α:Type} (f:α→List Value) (sz:Nat) (hf:∀ x,(f x).length=sz) (l:List α) (k j:Nat) (hj:j<sz) (x:α) (u:Value) (hk:∀ y,l[k]? = some y→f x=(f y).set j u) :
  (l.set k x).flatMap f=(l.flatMap f).set (k * sz+j) u:=by
 induction l generalizing k with
 | nil=>simp
 | cons y l ih =>
  cases k with
  | zero =>
   have:=hk y rfl
   simp only[List.set_cons_zero,List.flatMap_cons,this,Nat.zero_mul,Nat.zero_add]
   rw[List.set_append_left _ _ (by rw[hf];exact hj)]
  | succ k =>
   simp only[List.set_cons_succ,List.flatMap_cons]
   rw[ih k (fun z hz=>hk z (by simpa using hz)),List.set_append_right _ _ (by rw[hf,Nat.add_mul];omega),hf]
   congr 2
   rw[Nat.add_mul];omega
end Go.Proofs.YtpcajamacpbjcaaGreat
namespace Go.Proofs.YtpcajamacpbjcaaGreat
open Lib (hid)
theorem zng {α:Type} (f:α→List Value) (sz:Nat) (hf:∀ x,(f x).length=sz) (l:List α) (n:Nat):(l.take n).flatMap f=(l.flatMap f).take (n * sz):=by
 induction l generalizing n with
 | nil=>simp
 | cons x l ih =>
  cases n with
  | zero=>simp
  | succ n =>
   rw[List.take_succ_cons,List.flatMap_cons,List.flatMap_cons,ih,List.take_append,hf]
   rw[List.take_of_length_le (l:=f x) (by rw[hf,Nat.add_mul];omega)]
   congr 2
   rw[Nat.add_mul];omega
theorem znz {P:Program} (w:World) (base:Nat) (t ty e:TypeId) (i:TypeInfo) (size:Nat) (ht:P.underlying t=some (.slice e)) (hi:P.info? e=some i)
   (v:Value) (n:Nat) (xs:List Value) (hown:w.ownsRow base e size v n xs) (c:Nat):(Builtin.append_ #[t,t] ty #[v,.slice none 0 c]).run P w=.ok v w:=by
 rcases hown.2 with ⟨rfl,rfl⟩|⟨g,cap,cur,rfl,_,_,hnc,_⟩
 · simp[Builtin.append_,run_underlying ht,sizeOf,typeInfo,hi,Builtin.lenOf,Builtin.firstCells]
 · simp[Builtin.append_,run_underlying ht,sizeOf,typeInfo,hi,Builtin.lenOf,Builtin.firstCells,hnc,storeCells]
theorem zls {P:Program} (w:World) {o:Oper} {a:Act} {K:Act→World→Prop} {Q:Exit→Act→World→Prop} (s x:Operand) (t:TypeId)
  (ho:o.op=.call { callee:=.builtin .append,args:=#[s,x],argTypes:=#[t,t] })
  (base:Nat) (e:TypeId) (i:TypeInfo) (z:Value) (size bytes:Nat) (ht:P.underlying t=some (.slice e)) (hi:P.info? e=some i) (hz:i.zero=some z)
  (hsize:i.size=size) (hby:i.bytes=bytes) (hzs:z.cells.size=size) (hsz:0<size)
  (v:Value) (n:Nat) (xs:List Value) (hs:a.eval s=v) (hown:w.ownsRow base e size v n xs)
  (B:Nat) (A:Option Addr) (m c:Nat) (news:List Value) (hx:a.eval x=.slice A m c) (hl:news.length=m * size) (hr:Rd w B A news) (h1:∀ u ∈ news,u.oneCell'=true)
  (h63:n+m≤maxLen) (hbytes:(n+m) * bytes≤140737488355328) (hbase:base≤w.heap.size)
  (h:∀ v' w',w'.ownsRow base e size v' (n+m) (xs++news)→w.grownBy w' v.ownBlock→K (a.put o.dst v') w'):o.wp P a w K Q:=by
 cases A with
 | none =>
  have hn:news=[]:=by
    cases news with
    | nil=>rfl
    | cons u us =>
      obtain ⟨b,off,h1,_⟩:=hr (by simp)
      cases h1
  subst hn
  have hm:m=0:=by
    rcases Nat.eq_zero_or_pos m with h0|h0
    · exact h0
    · have:=Nat.mul_pos h0 hsz
      simp at hl;omega
  subst hm
  have h:=h v w (by simpa using hown) (World.grownBy.refl w _)
  have hrun:=znz (P:=P) w base t o.type e i size ht hi v n xs hown c
  unfold Oper.wp
  simp[execOp,ho,resolve,invoke,builtin,hs,hx,hrun,Result.andThen]
  exact h
 | some ad =>
  refine wp_append_own w s x t ho base e i z size bytes ht hi hz hsize hby hzs hsz v n xs hs hown ad m c news hx hl ?_ h1 h63 hbytes hbase (fun v' w' h2 h3 _=>h v' w' h2 h3)
  intro j u hu
  have hne:news≠[]:=by intro e;subst e;simp at hu
  obtain ⟨b,off,e,_,hc⟩:=hr hne
  cases e
  obtain ⟨hj,hv⟩:=List.getElem?_eq_some_iff.1 hu
  have:=hc j hj
  rw[hv] at this
  rw[←this]
  congr 1
  unfold Addr.add
  split
  · simp_all
  · rfl
theorem zb2 {P:Program} (w:World) {ops:Array Oper} {rest:List Oper} {o:Oper} {a:Act} {Q:Exit→Act→World→Prop} (hgd:Region.wanted o (yielded ops a.tmps)=true) (s x:Operand) (t:TypeId)
  (ho:o.op=.call { callee:=.builtin .append,args:=#[s,x],argTypes:=#[t,t] })
  (base:Nat) (e:TypeId) (i:TypeInfo) (z:Value) (size bytes:Nat) (ht:P.underlying t=some (.slice e)) (hi:P.info? e=some i) (hz:i.zero=some z)
  (hsize:i.size=size) (hby:i.bytes=bytes) (hzs:z.cells.size=size) (hsz:0<size)
  (v:Value) (n:Nat) (xs:List Value) (hs:a.eval s=v) (hown:w.ownsRow base e size v n xs)
  (B:Nat) (A:Option Addr) (m c:Nat) (news:List Value) (hx:a.eval x=.slice A m c) (hl:news.length=m * size) (hr:Rd w B A news) (h1:∀ u ∈ news,u.oneCell'=true)
  (h63:n+m≤maxLen) (hbytes:(n+m) * bytes≤140737488355328) (hbase:base≤w.heap.size)
  (h:∀ v' w',w'.ownsRow base e size v' (n+m) (xs++news)→w.grownBy w' v.ownBlock→wpList P ops Q rest (a.put o.dst v') w'):wpList P ops Q (o :: rest) a w:=
 wpList_step fun _ hK=>by
  rw[if_pos hgd]
  exact zls w s x t ho base e i z size bytes ht hi hz hsize hby hzs hsz v n xs hs hown B A m c news hx hl hr h1 h63 hbytes hbase fun v' w' h2 h3=>hK _ _ (h v' w' h2 h3)
end Go.Proofs.YtpcajamacpbjcaaGreat
namespace Go.Proofs.YtpcajamacpbjcaaGreat
open Lib (hid)
open Go.RowKit
theorem zj1 {a b:Bool} (h:a=b):Ending.returned (.bool a)=.returned (.bool b):=by rw[h]
theorem zmc {a b:Int} (h:a=b):Ending.returned (.int .i64 a)=.returned (.int .i64 b):=by rw[h]
def zah (w:Int):Bool:=decide (256≤w) && (decide (w≤2048) && w % 8 == 0)
theorem zad (w:Int):zah w=true↔256≤w∧w≤2048∧w % 8=0:=by simp[zah]
def zkj (n:Nat):Int:=if zah (n:Int)=true then 0 else 8
theorem zbc {n:Nat} (h:zah (n:Int)=true):zkj n=0:=by simp[zkj,h]
theorem zbw {n:Nat} (h:zah (n:Int)=false):zkj n=8:=by simp[zkj,h]
theorem zi5 {n:Nat} (h:zkj n=0):256≤n∧n≤2048∧n % 8=0:=by
 cases hs:zah (n:Int) with
 | false=>rw[zbw hs] at h;cases h
 | true=>have:=(zad _).1 hs;omega
section
set_option maxHeartbeats 400000
theorem zGk (n:Nat) (w:World) (hn:n≤9223372036854775807):Calls Tryz.prog 135 #[.int .i64 (n:Int)] w fun e w'=>e=.returned (.bool (zah (n:Int)))∧w=w':=by
 have H:Hid (∀ b:Bool,(b=true↔256≤n∧n≤2048∧n % 8=0)→b=zah (n:Int)):=hid fun b h=>by rw[Bool.eq_iff_iff,zad,h];omega
 go_enter Tryz.func135,Tryz.ntmps135
 go_wp2_with fail
 all_goals
  go_ret
  exact ⟨zj1 (H.out _ (by simp;omega)),rfl⟩
theorem zay (A:Option Addr) (n c:Nat) (w:World) (hn:n≤9223372036854775807):Calls Tryz.prog 87 #[.slice A n c] w fun e w'=>e=.returned (.int .i64 (zkj n))∧w=w':=by
 cases hs:zah (n:Int)
 all_goals
  first
   | have HE:=hid (zbc hs)
   | have HE:=hid (zbw hs)
  have HS:=hid hs
  clear hs
  go_enter Tryz.func87,Tryz.ntmps87
  go_wp2_with fail
  refine (zGk n w hn).mono ?_
  rintro e w1 ⟨rfl,rfl⟩
  rw[HS.out]
  go_wp2_with fail
  go_ret
  exact ⟨by rw[HE.out];rfl,rfl⟩
end
def zoq (n:Nat):Bool:=(decide (400<n) && decide (n<2040)) || decide (2060<n)
theorem greatW_no {n:Nat} (h:zoq n=false):n≤400∨2040≤n∧n≤2060:=by
 simp only[zoq,Bool.or_eq_false_iff,Bool.and_eq_false_iff,decide_eq_false_iff_not] at h
 omega
set_option maxHeartbeats 400000 in
theorem zzj (A:Option Addr) (n c:Nat) (w:World) (hm:n≤9223372036854775807) :
  Calls Tryz.prog 12 #[.slice A n c] w fun e w'=>e=.returned (.bool (zoq n))∧w=w':=by
 have H:Hid (∀ b:Bool,(b=true↔(400<n∧n<2040)∨2060<n)→b=zoq n):=hid fun b h=>by rw[Bool.eq_iff_iff,h];simp[zoq]
 go_enter Tryz.func12,Tryz.ntmps12
 go_wp2_with fail
 all_goals
  go_ret
  exact ⟨zj1 (H.out _ (by simp;omega)),rfl⟩
end Go.Proofs.YtpcajamacpbjcaaGreat
namespace Go.Proofs.YtpcajamacpbjcaaGreat
open Lib (hid)
open Go.RowKit
def zby (w k:Nat):Array Value:=((List.range 8).map fun i=>Value.int .u8 (if i<k then ((zhq w i:Nat):Int) else 0)).toArray
theorem zbk (w k:Nat):(zby w k).size=8:=by simp[zby]
theorem zeg (w k i:Nat) (h:i<8):(zby w k)[i]? = some (.int .u8 (if i<k then ((zhq w i:Nat):Int) else 0)):=by simp[zby,h]
theorem zm8 (w k:Nat) (hk:k<8):(zby w k).setIfInBounds k (.int .u8 (zhq w k:Nat))=zby w (k+1):=by
 apply Array.ext_getElem?
 intro i
 rw[Array.getElem?_setIfInBounds]
 by_cases h:i<8
 · rw[zeg _ _ _ h,zeg _ _ _ h]
   by_cases e:k=i
   · subst e;rw[if_pos rfl,if_pos (by rw[zbk];exact h),if_pos (by omega)]
   · rw[if_neg e]
     by_cases h2:i<k
     · rw[if_pos h2,if_pos (by omega)]
     · rw[if_neg h2,if_neg (by omega)]
 · rw[if_neg (by omega),Array.getElem?_eq_none (by rw[zbk];omega),Array.getElem?_eq_none (by rw[zbk];omega)]
def zgk:Array Value:=Array.replicate 8 (.int .u8 0)
theorem zuz (w:Nat):zgk=zby w 0:=by simp[zgk,zby];rfl
theorem zw4 (w k:Nat):(w:Int) / 2 ^ (8 * k) % 256=((zhq w k:Nat):Int):=by
 rw[zhq,show (256:Nat) ^ k=2 ^ (8 * k) by rw[Nat.pow_mul]]
 rfl
theorem zJ9:(Tryz.prog.info? 308).map (·.size)=some 8:=by kernel_rfl
theorem zjj:(Tryz.prog.info? 5).map (fun i=>(i.zero,i.size,i.bytes))=some (some (.int .u8 0),1,1):=by kernel_rfl
theorem zJi (w:World):(isAgg 5).run Tryz.prog w=.ok false w:=by kernel_rfl
theorem zi0 (x k:Nat):(zby x k).all (·.oneCell')=true:=by
 rw[Array.all_eq_true]
 intro i hi
 rw[zbk] at hi
 have h:=zeg x k i hi
 rw[Array.getElem?_eq_getElem (by rw[zbk];exact hi)] at h
 injection h with h
 rw[h];rfl
theorem zAg (w:World):(zeroValue 308).run Tryz.prog w=.ok (.agg zgk) w:=by kernel_rfl
set_option maxRecDepth 100000 in
set_option maxHeartbeats 1000000 in
theorem zI1 (x:Nat) (w:World) (hx:x<18446744073709551616) :
  Calls Tryz.prog 288 #[.int .u64 (x:Int)] w fun e w'=>e=.returned (.agg (zby x 8))∧Below w.heap.size w w':=by
 have hzv:=zAg
 have hx0:(0:Int)≤(x:Int):=by omega
 clear hx
 go_enter Tryz.func288,Tryz.ntmps288
 go_wp2_with fail
 go_loopw [4,5] (fun i' i wr=>∃ k:Nat,k≤8∧i=.int .i64 k∧Bx wr w.heap.size 308 zgk∧Bx wr (w.heap.size+1) 308 (zby x k)∧Below w.heap.size w wr) (fun _ i _=>8 - (intOf i).toNat)
 case atStart =>
  refine ⟨0,Nat.zero_le _,rfl,(Bx.new w _ _).alloc _,?_,((Below.refl _ _).alloc (Nat.le_refl _) _).alloc (by simp) _⟩
  have:=Bx.new (w.alloc (.cells zgk 308)) 308 zgk
  rw[World.size_alloc] at this
  rw[←zuz];exact this
 case round =>
  obtain ⟨k,hk,rfl,b0,b1,hB⟩:=hrel
  have hz:=hB.size
  by_cases hlt:k<8
  · have hc:=b1.cell k
    rw[zeg _ _ _ hlt] at hc
    have hf:=b1.frozen k
    have HB1:=hid b1
    have HB0:=hid b0
    have ik0:(0:Int)≤(k:Int):=by omega
    have ik1:(k:Int)<8:=by omega
    clear b0 b1
    go_wp2_with fail
    rw[zw4]
    refine ⟨⟨k+1,by omega,by go_num,HB0.out.far (p:=⟨w.heap.size+1,k,none⟩) (by dsimp only;omega) _,?_,hB.setCell (p:=⟨w.heap.size+1,k,none⟩) (by dsimp only;omega) _⟩,by simp[intOf];omega⟩
    rw[←zm8 x k hlt]
    exact HB1.out.set_ k _
  · obtain rfl:k=8:=by omega
    have hi:(Tryz.prog.info? 308).map (·.size)=some (zby x 8).size:=by rw[zbk];exact zJ9
    have h1c:=zi0 x 8
    have hth:=zl9 b0
    rw[show zgk.size=(zby x 8).size by rw[zbk];simp[zgk]] at hth
    have HB2:=hid (zf8 b0 (cs:=zby x 8) (by rw[zbk];simp[zgk]))
    have HB1:=hid b1
    have HBL:=hid (zdd (Nat.le_refl _) (zby x 8).toList (o:=0) hB)
    clear b0 b1
    obtain ⟨cs,hcs⟩:∃ cs,zby x 8=cs:=⟨_,rfl⟩
    have HCS:=hid hcs
    rw[hcs] at hi h1c hth HB2 HB1 HBL
    clear hcs
    go_wp2_with (first
     | (refine wpList_load_row rfl _ _ rfl (w.heap.size+1) (by rfl) 308 cs (0,0) _ HB1.out Tryz.underlying308 (by rfl) hi ?_)
     | (refine wpList_store_mid rfl _ _ _ rfl w.heap.size 0 cs (by rfl) (by rfl) hth hi h1c ?_))
    exact bodyPost_ret (v:=.agg cs) (results_cell_row rfl _ _ w.heap.size _ cs (0,0) _ (by rfl) HB2.out Tryz.underlying308 (by rfl) hi) rfl ⟨by rw[HCS.out],HBL.out⟩
theorem zle (n:Nat):IntKind.u64.wrap (n:Int)=((n % 18446744073709551616:Nat):Int):=by simp[IntKind.wrap,IntKind.bits,IntKind.signed]
set_option maxRecDepth 100000 in
set_option maxHeartbeats 1600000 in
theorem zAq (s:Nat) (A:Option Addr) (l:List Nat) (c n:Nat) (w:World) (hn:l.length=n) (hm:n≤2048) (hs:s<18446744073709551616) (hr:RdW w w.heap.size A l) (ho:∀ x ∈ l,x<18446744073709551616) :
  Calls Tryz.prog 264 #[.int .u64 (s:Int),.slice A n c] w fun e w'=>e=.returned (.tuple #[.int .u64 (zbh s l:Nat),.int .i64 0])∧Below w.heap.size w w':=by
 subst hn
 have HR:=hid hr
 have HO:=hid ho
 have HS:=hid hs
 clear hr ho hs
 obtain ⟨i0,hi,hz0,hz1,hz2⟩:=info_parts zjj
 have HI:=hid hi
 have HZ0:=hid hz0
 have HZ1:=hid hz1
 have HZ2:=hid hz2
 clear hi hz0 hz1 hz2
 go_enter Tryz.func264,Tryz.ntmps264
 go_wp2_with fail
 go_loopw [0,15] (fun st i wr=>∃ k:Nat,k≤l.length∧i=.int .i64 k∧st=.int .u64 (zbh s (l.take k):Nat)∧Below w.heap.size w wr) (fun _ i _=>l.length - (intOf i).toNat)
 case atStart=>exact ⟨0,Nat.zero_le _,rfl,rfl,Below.refl _ _⟩
 case round =>
  obtain ⟨k,hk,rfl,rfl,hB⟩:=hrel
  have hz:=hB.size
  by_cases hlt:k<l.length
  · obtain ⟨b,off,rfl,hb,h0⟩:=RdW.at_ HR.out hlt
    replace h0:=(hB.cell (p:=⟨b,off+k,none⟩) hb).trans h0
    have HX:=hid (HO.out l[k] (List.getElem_mem hlt))
    have HT:=hid (zlj hlt s)
    obtain ⟨x,hx⟩:∃ x,l[k]=x:=⟨_,rfl⟩
    rw[hx] at h0 HX HT
    have HQ:=hid (zin HS.out (l.take k))
    obtain ⟨q,hq⟩:∃ q,zbh s (l.take k)=q:=⟨_,rfl⟩
    rw[hq] at HT HQ ⊢
    clear hx hq
    have ik1:(0:Int)≤(k:Int):=by omega
    have ik2:(k:Int)<(l.length:Int):=by omega
    go_wp2_with fail
    refine (zI1 x _ HX.out).mono ?_
    rintro e w1 ⟨rfl,hB1⟩
    have hb1:=hB.trans (hB1.mono hz)
    go_wp2_with fail
    go_loopw [0,21] (fun st i wr=>∃ j:Nat,j≤8∧i=.int .i64 j∧st=.int .u64 (zC2 q x j:Nat)∧Below w.heap.size w wr) (fun _ i _=>8 - (intOf i).toNat)
    case atStart=>exact ⟨0,Nat.zero_le _,rfl,rfl,hb1⟩
    case round =>
     obtain ⟨j,hj,rfl,rfl,hB2⟩:=hrel
     by_cases hlj:j<8
     · have hget:=zeg x 8 j hlj
       rw[if_pos hlj] at hget
       have hrun:=zpv (P:=Tryz.prog) Tryz.underlying308 HI.out HZ1.out zJi hlj hget
       have hbt:=zrn x j
       have HFN:=hid (ztb HQ.out x j)
       have HNX:Hid (zC2 q x (j+1)=zHy (zC2 q x j) (zhq x j)):=hid rfl
       obtain ⟨p,hp⟩:∃ p,zC2 q x j=p:=⟨_,rfl⟩
       obtain ⟨y,hy⟩:∃ y,zhq x j=y:=⟨_,rfl⟩
       rw[hp] at HFN HNX ⊢
       rw[hy] at hbt hrun HNX
       clear hp hy hget
       have HXOR:=hid (u64_xor_nat p y HFN.out (by omega))
       have hxor:=HXOR.out
       go_wp2_with fail
       refine ⟨⟨j+1,by omega,by go_num,?_,hB2⟩,by simp[intOf];omega⟩
       rw[HNX.out]
       unfold zHy
       rw[←zle,Int.natCast_mul]
       rfl
     · obtain rfl:j=8:=by omega
       go_wp2_with fail
       go_roundw
       case rel=>exact ⟨k+1,by omega,by go_num,by rw[HT.out];rfl,hB2⟩
       case measure=>simp[intOf];omega
  · obtain rfl:k=l.length:=by omega
    rw[List.take_length]
    go_wp2_with fail
    go_ret2
    exact ⟨rfl,hB⟩
set_option maxHeartbeats 800000 in
theorem zug (A:Option Addr) (l:List Nat) (c n:Nat) (w:World) (hn:l.length=n) (hm:n≤2048) (hr:RdW w w.heap.size A l) (ho:∀ x ∈ l,x<18446744073709551616) :
  Calls Tryz.prog 222 #[.slice A n c] w fun e w'=>e=.returned (.tuple #[.int .u64 (zbh 14695981039346656037 l:Nat),.int .i64 0])∧Below w.heap.size w w':=by
 have HR:=hid hr
 have HO:=hid ho
 have HN:=hid hn
 clear hr ho hn
 go_enter Tryz.func222,Tryz.ntmps222
 go_wp2_with fail
 refine (zAq 14695981039346656037 A l c n w HN.out hm (by omega) HR.out HO.out).mono ?_
 rintro e w1 ⟨rfl,hB1⟩
 obtain ⟨q,hq⟩:∃ q,zbh 14695981039346656037 l=q:=⟨_,rfl⟩
 have HQE:=hid hq
 rw[hq]
 clear hq
 go_wp2_with fail
 go_ret2
 exact ⟨by rw[HQE.out];rfl,hB1⟩
theorem zxx (s:Nat):s &&& 4294967295=s % 4294967296:=by
 rw[show (4294967295:Nat)=2 ^ 32 - 1 from rfl,Nat.and_two_pow_sub_one_eq_mod]
section
set_option maxRecDepth 100000
set_option maxHeartbeats 800000
theorem zG2 (w:World):Calls Tryz.prog 224 #[.int .i64 0,.int .i64 32] w fun e w'=>e=.returned (.int .u64 4294967295)∧w=w':=by
 go_enter Tryz.func224,Tryz.ntmps224
 go_wp2_with fail
 go_ret
 exact ⟨rfl,rfl⟩
theorem zIf (s:Nat) (w:World) (hs:s<18446744073709551616):Calls Tryz.prog 223 #[.int .u64 (s:Int),.int .i64 0,.int .i64 32] w fun e w'=>e=.returned (.tuple #[.int .u64 ((s % 4294967296:Nat):Int),.int .i64 0])∧w=w':=by
 have HA:=hid (u64_and_nat s 4294967295 hs (by omega))
 clear hs
 go_enter Tryz.func223,Tryz.ntmps223
 go_wp2_with fail
 refine (zG2 w).mono ?_
 rintro e w1 ⟨rfl,rfl⟩
 have hand:=HA.out
 rw[zxx] at hand
 go_wp2_with fail
 go_ret2
 exact ⟨by rw[←hand];rfl,rfl⟩
theorem zxl (A:Option Addr) (l:List Nat) (c n:Nat) (w:World) (hn:l.length=n) (hm:n≤2048) (hr:RdW w w.heap.size A l) (ho:∀ x ∈ l,x<18446744073709551616) :
  Calls Tryz.prog 177 #[.slice A n c,.int .i64 32] w fun e w'=>e=.returned (.tuple #[.int .u64 ((zbh 14695981039346656037 l % 4294967296:Nat):Int),.int .i64 0])∧Below w.heap.size w w':=by
 have HR:=hid hr
 have HO:=hid ho
 have HN:=hid hn
 clear hr ho hn
 have HQ:=hid (zin (s:=14695981039346656037) (by omega) l)
 go_enter Tryz.func177,Tryz.ntmps177
 go_wp2_with fail
 refine (zug A l c n w HN.out hm HR.out HO.out).mono ?_
 rintro e w1 ⟨rfl,hB1⟩
 obtain ⟨q,hq⟩:∃ q,zbh 14695981039346656037 l=q:=⟨_,rfl⟩
 have HQE:=hid hq
 rw[hq] at HQ ⊢
 clear hq
 go_wp2_with fail
 refine (zIf q _ HQ.out).mono ?_
 rintro e w2 ⟨rfl,rfl⟩
 obtain ⟨r,hr⟩:∃ r,q % 4294967296=r:=⟨_,rfl⟩
 have HRE:=hid hr
 rw[hr]
 clear hr
 go_wp2_with fail
 go_ret2
 exact ⟨by rw[HQE.out,HRE.out];rfl,hB1⟩
end
end Go.Proofs.YtpcajamacpbjcaaGreat
namespace Go.Proofs.YtpcajamacpbjcaaGreat
open Lib (hid)
theorem ze3 (n:Nat):zt4 n=zah (n:Int):=by
 rw[Bool.eq_iff_iff,zad]
 simp only[zt4,Bool.and_eq_true,decide_eq_true_eq,beq_iff_eq]
 omega
def zae (ws:List Nat):Int:=if zah (ws.length:Int)=true then (match blocks ws 128 with | none=>50 | some l=>if l.all (zds ws)=true then 0 else 50) else 8
def zab (ws:List Nat):List Bk:=if zae ws=0 then (blocks ws 128).getD [] else []
theorem zno {ws:List Nat} (h:zah (ws.length:Int)=false):zae ws=8:=by simp[zae,h]
theorem zxm {ws:List Nat} (h:zah (ws.length:Int)=true) (h2:blocks ws 128=none):zae ws=50:=by simp[zae,h,h2]
theorem zrx {ws:List Nat} (h:zah (ws.length:Int)=true) {l:List Bk} (h2:blocks ws 128=some l) (h3:l.all (zds ws)=false):zae ws=50:=by
 simp only[zae,h,h2,h3,if_true,Bool.false_eq_true,if_false]
theorem ze7 {ws:List Nat} (h:zah (ws.length:Int)=true) {l:List Bk} (h2:blocks ws 128=some l) (h3:l.all (zds ws)=true):zae ws=0∧zab ws=l:=by
 have:zae ws=0:=by simp only[zae,h,h2,h3,if_true]
 exact ⟨this,by simp[zab,this,h2]⟩
theorem zam {ws:List Nat} (h:zae ws=0):zah (ws.length:Int)=true∧∃ l,blocks ws 128=some l∧l.all (zds ws)=true∧zab ws=l:=by
 have h0:=h
 unfold zae at h
 split at h
 · rename_i h1
   refine ⟨h1,?_⟩
   cases hb:blocks ws 128 with
   | none=>rw[hb] at h;cases h
   | some l =>
    rw[hb] at h
    dsimp only at h
    split at h
    · rename_i h2
      exact ⟨l,rfl,h2,by simp[zab,h0,hb]⟩
    · cases h
 · cases h
theorem zEe (ws:List Nat):zae ws=0∨zae ws=8∨zae ws=50:=by
 unfold zae
 split
 · cases blocks ws 128 with
   | none=>simp
   | some l=>dsimp only;split <;> simp
 · simp
def ze2:List (Int × Int)→Int→Option Int
 | [],_=>none
 | m :: l,a=>if m.1=a then some m.2 else ze2 l a
theorem zIk {l:List (Int × Int)} {p:Nat} (hp:p<l.length) (h:∀ q (hq:q<p),(l[q]'(by omega)).1≠l[p].1):ze2 l l[p].1=some l[p].2:=by
 induction l generalizing p with
 | nil=>simp at hp
 | cons m l ih =>
  cases p with
  | zero=>simp[ze2]
  | succ p =>
   simp only[ze2,List.getElem_cons_succ]
   rw[if_neg (by simpa using h 0 (by omega))]
   exact ih (by simpa using hp) (fun q hq=>by simpa using h (q+1) (by omega))
theorem zwo {l:List Bk} (h:zb4 l=0) (s:Int) {m n:Nat} (hmn:m≤n) (hn:n≤l.length):zat (l.take m) s≤zat (l.take n) s:=by
 obtain ⟨_,h2⟩:=zc5 h
 induction n with
 | zero =>
     have:m=0:=by omega
     subst this;exact Int.le_refl _
 | succ n ih =>
  rcases Nat.lt_or_ge n m with h3|h3
  · have:m=n+1:=by omega
    subst this;exact Int.le_refl _
  · have h4:=ih h3 (by omega)
    have h5:=(zd7 _).1 (zdr h2 (show n<l.length by omega)).1
    rw[zbt l n (by omega)] at h5
    rw[zgw (by omega)]
    split <;> omega
theorem zyj {l:List Bk}:∀ {s:Int},zal l s=[]→zat l s=s:=by
 induction l with
 | nil=>intro s _;rfl
 | cons b l ih =>
  intro s h
  simp only[zal,zat] at h ⊢
  split at h
  · simp at h
  · rename_i hb
    rw[if_neg hb];exact ih h
theorem zny {l:List Bk} (s:Int) {m n:Nat} (hmn:m≤n):(zal (l.take m) s).length≤(zal (l.take n) s).length:=by
 have:l.take n=l.take m++(l.take n).drop m:=by
  conv=>lhs;rw[←List.take_append_drop m (l.take n),List.take_take,Nat.min_eq_left hmn]
 rw[this,zfb,List.length_append]
 omega
theorem zxc {l:List Bk} (h:zb4 l=0) {s:Int} (hs:s≤znt l):(∀ p (hp:p<(zal l s).length),((zal l s)[p]).2≤((zal l s)[p]).1∧ze2 (zal l s) ((zal l s)[p]).1=some ((zal l s)[p]).2) ∧
   (∀ p q (hq:q<(zal l s).length) (hpq:p<q),((zal l s)[p]'(by omega)).2<((zal l s)[q]).2∧((zal l s)[p]'(by omega)).1<((zal l s)[q]).1)∧(∀ (hp:0<(zal l s).length),((zal l s)[0]).2=s):=by
 obtain ⟨_,h2⟩:=zc5 h
 have two:∀ p q (hq:q<(zal l s).length) (hpq:p<q),((zal l s)[p]'(by omega)).2<((zal l s)[q]).2∧((zal l s)[p]'(by omega)).1<((zal l s)[q]).1:=by
   intro p q hq hpq
   obtain ⟨k,hk,a1,a2,a3⟩:=zik (show p<(zal l s).length by omega)
   obtain ⟨m,hm,b1,b2,b3⟩:=zik hq
   rw[List.getElem?_eq_getElem (by omega)] at a2 b2
   have a2:=Option.some.inj a2
   have b2:=Option.some.inj b2
   have hkm:k<m:=by
    rcases Nat.lt_or_ge k m with h3|h3
    · exact h3
    · have:=zny (l:=l) s h3
      omega
   have h4:=zwo h s (show k+1≤m by omega) (by omega)
   have h5:=(zd7 _).1 (zdr h2 hk).1
   rw[zbt l k hk] at h5
   rw[zgw hk,if_pos a1] at h4
   have h6:=zkt h hm hkm
   rw[zbt l k hk,zbt l m hm] at h6
   rw[a2,b2]
   exact ⟨by dsimp only;omega,h6⟩
 refine ⟨fun p hp => ?_,two,fun hp => ?_⟩
 · refine ⟨?_,zIk hp (fun q hq=>by have:=(two q p hp hq).2;omega)⟩
   obtain ⟨k,hk,a1,a2,a3⟩:=zik hp
   rw[List.getElem?_eq_getElem hp] at a2
   rw[Option.some.inj a2]
   have:=ztp h hs hk
   rw[zbt l k hk] at this
   exact this
 · obtain ⟨k,hk,a1,a2,a3⟩:=zik hp
   rw[List.getElem?_eq_getElem hp] at a2
   rw[Option.some.inj a2]
   exact zyj (List.eq_nil_of_length_eq_zero a3)
def zd8 (l:List Bk):List Int:=(l.filter (·.mark)).map Bk.at_
theorem zky:∀ {l:List Bk},(∀ b ∈ l,b.mark=true→b.kind=1)→∀ s,zd8 l=(zal l s).map Prod.fst:=by
 intro l
 induction l with
 | nil=>intro _ s;rfl
 | cons b l ih =>
  intro h s
  have ih:=ih (fun c hc=>h c (by simp[hc]))
  cases hm:b.mark with
  | true =>
   have hl:zax b=true:=by simp[zax,hm,h b (by simp) hm]
   simp only[zd8,List.filter_cons,hm,if_true,List.map_cons,zal,hl]
   congr 1
   exact ih (s+b.size)
  | false =>
   have hl:zax b=false:=by simp[zax,hm]
   simp only[zd8,List.filter_cons,hm,Bool.false_eq_true,if_false,zal,hl]
   exact ih s
theorem zh3 {ws:List Nat} {i:Nat} {l:List Bk} (h:blocks ws i=some l) (h2:i % 2=0):∀ b ∈ l,b.mark=true→b.kind=1:=by
 intro b hb hm
 obtain ⟨m,hm',rfl⟩:=List.getElem_of_mem hb
 obtain ⟨a,e,-,-,-,b4,-⟩:=zb5 _ _ h h2 m hm'
 have h7:=(zbo _).1 (ze4 b4)
 rw[e] at hm ⊢
 have hm2:(zaf (wd ws a)).mark=true:=hm
 show (zaf (wd ws a)).kind=1
 rcases h7.2 with h8|h8
 · exact h8.1
 · rw[hm2] at h8;exact absurd h8.2.2.1 (by simp)
theorem zs2 {a b:Bk} (h:zax a=zax b) (s:Int):zbp a s=zbp b s:=by unfold zbp;rw[h]
theorem zt3 {a b:Bk} (h:zax a=zax b) (h2:a.size=b.size) (s:Int):zeo a s=zeo b s:=by unfold zeo;rw[h,h2]
theorem zm6:∀ {l:List Bk} {s:Int},za2 (fwB l s) s=[]:=by
 intro l
 induction l with
 | nil=>intro s;rfl
 | cons b l ih =>
  intro s
  simp only[fwB,za2]
  have hl:zax (if b.kind=1 then { b with next:=zbp b s } else b)=zax b:=by split <;> rfl
  have h1:(if b.kind=1 then { b with next:=zbp b s } else b).size=b.size:=by split <;> rfl
  have e1:zeo (if b.kind=1 then { b with next:=zbp b s } else b) s=zeo b s:=zt3 hl h1 s
  have e2:zbp (if b.kind=1 then { b with next:=zbp b s } else b) s=zbp b s:=zs2 hl s
  rw[e1,ih,e2]
  by_cases hk:b.kind=1
  · rw[if_pos hk,if_neg (fun h=>h.2 rfl)];rfl
  · rw[if_neg hk,if_neg (fun h=>hk h.1)];rfl
theorem zDt {ws xs:List Nat} (hw:∀ j,j<128→wd xs j=wd ws j) {b:Bk} (hb:b.kind=1→tyA b+1<128) (s:Int):zds xs (if b.kind=1 then { b with next:=zbp b s } else b)=zds ws b:=by
 by_cases hk:b.kind=1
 · rw[if_pos hk]
   have h2:=hb hk
   unfold zds zc2
   show (b.kind != 1 || (zb7 (wd xs (tyA b)) (wd xs (tyA b+1)) && b.size == ((za8 (wd xs (tyA b) % 256):Nat):Int)))=_
   rw[hw _ (by omega),hw _ (by omega)]
 · rw[if_neg hk]
   have:(b.kind != 1)=true:=by rw[bne_iff_ne];exact hk
   simp[zds,this]
theorem zFl {ws xs:List Nat} (hw:∀ j,j<128→wd xs j=wd ws j):∀ {l:List Bk} {s:Int},(∀ b ∈ l,b.kind=1→tyA b+1<128)→(∀ b ∈ l,0≤b.size)→l.all (zds ws)=true→0≤s→zbz xs (fwB l s) s=true∧(fwB l s).all (zds xs)=true:=by
 intro l
 induction l with
 | nil=>intro s _ _ _ _;exact ⟨rfl,rfl⟩
 | cons b l ih =>
  intro s h1 h2 h3 hs
  simp only[List.all_cons,Bool.and_eq_true] at h3
  have e:=zDt hw (h1 b (by simp)) s
  have hl:zax (if b.kind=1 then { b with next:=zbp b s } else b)=zax b:=by split <;> rfl
  have hz:(if b.kind=1 then { b with next:=zbp b s } else b).size=b.size:=by split <;> rfl
  obtain ⟨g1,g2⟩:=ih (s:=zeo b s) (fun c hc=>h1 c (by simp[hc])) (fun c hc=>h2 c (by simp[hc])) h3.2 (by have:=h2 b (by simp);unfold zeo;split <;> omega)
  refine ⟨?_,by simp only[fwB,List.all_cons,e,h3.1,g2,Bool.true_and]⟩
  simp only[fwB,zbz,e,h3.1,Bool.true_and,hl,hz]
  unfold zeo at g1 ⊢
  cases hb:zax b with
  | true =>
   have hk:b.kind=1:=by simp[zax] at hb;exact hb.1
   simp only[hb,if_true] at g1 ⊢
   rw[g1,Bool.and_true,if_pos hk]
   simp only[zbp,hb,if_true,beq_iff_eq]
   omega
  | false =>
   simp only[hb,Bool.false_eq_true,if_false] at g1 ⊢
   exact g1
theorem zo2 {ws:List Nat} (h:zae ws=0):∃ l,blocks ws 128=some l∧zab ws=l∧zd4 l 128=0∧zbi (zag ws (za2 l 128)) 128 128=0∧zhn (zag ws (za2 l 128)) 128 128=zal l 128 ∧
  zae (zag ws (za2 l 128))=0∧zab (zag ws (za2 l 128))=fwB l 128∧za2 (fwB l 128) 128=[]∧zd8 l=(zal l 128).map Prod.fst:=by
 obtain ⟨h1,l,h2,h3,h4⟩:=zam h
 have hb:=(zad _).1 h1
 have hst:=zjo (i:=128) (by omega) h2 (by omega) (by omega) (by omega) (s:=128) (by omega) (by omega) (by omega)
 obtain ⟨hre,-⟩:=zei hst
 obtain ⟨g1,g2⟩:=ztk _ ws 128 l (Nat.le_refl _) h2 128
 have hlen:(zag ws (za2 l 128)).length=ws.length:=zau _ _
 obtain ⟨f1,f2⟩:=zFl (xs:=zag ws (za2 l 128)) (fun j hj=>g2 j (by omega)) (l:=l) (s:=128) (zgo h2 (by omega)) (fun b hb=>by
  obtain ⟨m,hm,rfl⟩:=List.getElem_of_mem hb
  obtain ⟨a,e,-⟩:=zb5 _ _ h2 (by omega) m hm
  rw[e,zba];omega) h3 (by omega)
 have hrd:zbi (zag ws (za2 l 128)) 128 128=0:=by
  rw[zg6 (l:=fwB l 128) (by rw[hlen,ze3];exact h1) ?_ g1,if_pos f1]
  rw[hlen]
  cases hq:zgy ws.length 128 128 with
  | false=>rfl
  | true=>exact absurd (by omega) ((zju _ _ _).1 hq)
 obtain ⟨o1,o2⟩:=ze7 (by rw[hlen];exact h1) g1 f2
 refine ⟨l,h2,h4,hst,hrd,?_,o1,o2,zm6,zky (zh3 h2 (by omega)) 128⟩
 unfold zhn
 rw[if_pos hrd]
 show (match blocks (zag ws (za2 l 128)) 128 with | none=>[] | some l=>zal l 128)=_
 rw[g1]
 exact zF2.2.1
theorem zBf {ws:List Nat}:∀ i l,blocks ws i=some l→∀ s,(za2 l s).Pairwise (fun a b=>a.a<b.a):=by
 refine zdb _ (fun i _ s=>List.Pairwise.nil) (fun i l hi hs hb ih s => ?_)
 have hsz:=zav hs
 simp only[za2]
 split
 · refine List.Pairwise.cons (fun e he => ?_) (ih _)
   have:=zp7 _ _ hb _ e he
   show (bkAt ws i).at_+1<e.a
   rw[zaa];omega
 · exact ih _
end Go.Proofs.YtpcajamacpbjcaaGreat
namespace Go.Proofs.YtpcajamacpbjcaaGreat
open Lib (hid)
open Go.RowKit
def zhr (b:Bk):Int:=if zhs b=true then 0 else 8
theorem zg7 {b:Bk} (h:zhs b=true):zhr b=0:=by simp[zhr,h]
theorem zmf {b:Bk} (h:zhs b=false):zhr b=8:=by simp[zhr,h]
theorem zD0 {xa xs xk xt:Int} {xm:Bool} {xn:Nat} (h:(2≤xs∧xs % 2=0)∧(xk=1∧0≤xt∧xt<8∧xs≤10∨xk=2∧xt=0∧xm=false∧xs≤1920)):(0:Int)=zhr ⟨xa,xs,xk,xt,xm,xn⟩:=(zg7 ((zbo _).2 h)).symm
theorem zEc {xa xs xk xt:Int} {xm:Bool} {xn:Nat} (h:¬ ((2≤xs∧xs % 2=0)∧(xk=1∧0≤xt∧xt<8∧xs≤10∨xk=2∧xt=0∧xm=false∧xs≤1920))):(8:Int)=zhr ⟨xa,xs,xk,xt,xm,xn⟩:=
 (zmf (by
  cases hq:zhs ⟨xa,xs,xk,xt,xm,xn⟩ with
  | false=>rfl
  | true=>exact absurd ((zbo _).1 hq) h)).symm
set_option maxRecDepth 100000 in
set_option maxHeartbeats 2000000 in
theorem zqz (b:Bk) (w:World):Calls Tryz.prog 165 #[b.val] w fun e w'=>e=.returned (.int .i64 (zhr b))∧Below w.heap.size w w':=by
 obtain ⟨xa,xs,xk,xt,xm,xn⟩:=b
 unfold Bk.val
 cases xm
 all_goals
  go_enter Tryz.func165,Tryz.ntmps165
  go_wp2_with fail
  all_goals
   go_ret
   refine ⟨?_,(Below.refl _ _).alloc (Nat.le_refl _) _⟩
   (try simp only[bne_iff_ne,ne_eq,bne_eq_false_iff_eq,Bool.not_eq_true',Bool.not_eq_false',decide_eq_false_iff_not,decide_eq_true_eq] at *)
   first
    | (exfalso;omega)
    | exact zmc (zD0 (by simp only[reduceCtorEq,and_false,false_and,or_false,true_and];omega))
    | exact zmc (zEc (by simp only[reduceCtorEq,and_false,false_and,or_false,true_and];omega))
end Go.Proofs.YtpcajamacpbjcaaGreat
namespace Go.Proofs.YtpcajamacpbjcaaGreat
open Lib (hid)
open Go.RowKit
def OfRes (b:Bk) (e:Ending):Prop:=∃ a1 a2 a3 a4,e=.returned (.agg #[.int .u64 (zkl b:Nat),a1,a2,a3,a4])
theorem zi1 {a x i:Nat} (ha:a<2 ^ i):a ||| x * 2 ^ i=a+x * 2 ^ i:=by
 rw[Nat.or_comm,nat_join i _ a (by simp) ha,Nat.add_comm]
theorem zup {K M T S:Nat} {m:Int} (hK:K<256) (hM:M≤1) (hT:T<128) (hS:S<65536) (hm:m=((M * 256:Nat):Int)) :
  bits BinOp.or .u64 (bits BinOp.or .u64 (bits BinOp.or .u64 (K:Int) m) ((T:Int) * 512)) ((S:Int) * 65536)=((K+M * 256+T * 512+S * 65536:Nat):Int):=by
 subst hm
 have e1:=u64_or_nat K (M * 256) (by omega) (by omega)
 have j1:K ||| M * 256=K+M * 256:=by rw[show M * 256=M * 2 ^ 8 from rfl,zi1 hK]
 rw[j1] at e1
 rw[e1]
 have e2:=u64_or_nat (K+M * 256) (T * 512) (by omega) (by omega)
 have j2:K+M * 256 ||| T * 512=K+M * 256+T * 512:=by rw[show T * 512=T * 2 ^ 9 from rfl,zi1 (by omega)]
 rw[j2] at e2
 rw[show ((T:Int) * 512)=((T * 512:Nat):Int) by simp,e2]
 have e3:=u64_or_nat (K+M * 256+T * 512) (S * 65536) (by omega) (by omega)
 have j3:K+M * 256+T * 512 ||| S * 65536=K+M * 256+T * 512+S * 65536:=by rw[show S * 65536=S * 2 ^ 16 from rfl,zi1 (by omega)]
 rw[j3] at e3
 rw[show ((S:Int) * 65536)=((S * 65536:Nat):Int) by simp,e3]
theorem znr (w:World) (cs:List Value) (t:TypeId):Rd (w.alloc (.cells cs.toArray t)) (w.heap.size+1) (some ⟨w.heap.size,0,none⟩) cs:=fun _ =>
 ⟨w.heap.size,0,rfl,by omega,fun j hj=>by
  have:=(Bx.new w t cs.toArray).cell j
  rw[Nat.zero_add,this]
  simp[hj]⟩
set_option maxRecDepth 100000 in
set_option maxHeartbeats 1600000 in
theorem hdOf_c (b:Bk) (w:World) (hb:zhs b=true):Calls Tryz.prog 166 #[b.val] w fun e w'=>OfRes b e∧Below w.heap.size w w':=by
 obtain ⟨h1,h2,h3,h4,h5,h6,h7⟩:=zud hb
 clear hb
 obtain ⟨xa,xs,xk,xt,xm,xn⟩:=b
 dsimp only at *
 obtain ⟨K,rfl⟩:=Int.eq_ofNat_of_zero_le h4
 obtain ⟨T,rfl⟩:=Int.eq_ofNat_of_zero_le h5
 obtain ⟨S,rfl⟩:=Int.eq_ofNat_of_zero_le h6
 simp only[Int.toNat_natCast] at h1 h2 h3
 unfold Bk.val
 cases xm
 all_goals
   go_enter Tryz.func166,Tryz.ntmps166
   go_wp2_with fail
 · refine bodyPost_ret (v:=.agg #[.int .u64 (bits BinOp.or .u64 (bits BinOp.or .u64 (bits BinOp.or .u64 (K:Int) 0) ((T:Int) * 512)) ((S:Int) * 65536)),.int .u64 (K:Int),.int .u64 (T:Int),.int .u64 (S:Int),.int .u64 0]) (by simp[results,Tryz.results166,go_sem]) rfl ⟨?_,?_⟩
   · refine ⟨.int .u64 (K:Int),.int .u64 (T:Int),.int .u64 (S:Int),.int .u64 0,?_⟩
     rw[zup (M:=0) h1 (by omega) h2 h3 (by simp)]
     rfl
   · exact (((Below.refl _ _).alloc (Nat.le_refl _) _).alloc (by simp) _).alloc (by simp;omega) _
 · refine bodyPost_ret (v:=.agg #[.int .u64 (bits BinOp.or .u64 (bits BinOp.or .u64 (bits BinOp.or .u64 (K:Int) 256) ((T:Int) * 512)) ((S:Int) * 65536)),.int .u64 (K:Int),.int .u64 (T:Int),.int .u64 (S:Int),.int .u64 1]) (by simp[results,Tryz.results166,go_sem]) rfl ⟨?_,?_⟩
   · refine ⟨.int .u64 (K:Int),.int .u64 (T:Int),.int .u64 (S:Int),.int .u64 1,?_⟩
     rw[zup (M:=1) h1 (by omega) h2 h3 (by simp)]
     rfl
   · exact (((Below.refl _ _).alloc (Nat.le_refl _) _).alloc (by simp) _).alloc (by simp;omega) _
theorem or32 {x t:Nat} (hx:x<4294967296) (ht:t<4294967296):bits BinOp.or .u64 (x:Int) ((t:Int) * 4294967296)=((x+t * 4294967296:Nat):Int):=by
 have h:=u64_or_nat x (t * 4294967296) (by omega) (by omega)
 rw[show t * 4294967296=t * 2 ^ 32 from rfl,zi1 (i:=32) (by omega)] at h
 rw[←h]
 simp
set_option maxRecDepth 100000 in
set_option maxHeartbeats 1600000 in
theorem zFc (x:Nat) (w:World) (hx:x<4294967296):Calls Tryz.prog 167 #[.int .u64 (x:Int)] w fun e w'=>e=.returned (.tuple #[.int .u64 ((x+zgi x % 4294967296 * 4294967296:Nat):Int),.int .i64 0])∧Below w.heap.size w w':=by
 have hsb:zgi x % 4294967296<4294967296:=Nat.mod_lt _ (by omega)
 have HOR:=hid (or32 hx hsb)
 have HX:=hid hx
 have hx0:(0:Int)≤(x:Int):=by omega
 have HE:Hid (zbh 14695981039346656037 [x]=zgi x):=hid rfl
 clear hx
 go_enter Tryz.func167,Tryz.ntmps167
 go_wp2_with fail
 have hrd:=znr w [.int .u64 (x:Int)] 53
 refine (zxl _ [x] _ 1 _ rfl (by omega) (by rw[World.size_alloc];exact hrd) (by intro y hy;simp at hy;subst hy;have:=HX.out;omega)).mono ?_
 rintro e w1 ⟨rfl,hB1⟩
 rw[World.size_alloc] at hB1
 have hb1:=zan hB1
 rw[HE.out]
 obtain ⟨t,ht⟩:∃ t,zgi x % 4294967296=t:=⟨_,rfl⟩
 have HT:=hid ht
 rw[ht] at hsb HOR ⊢
 clear ht hB1 hrd
 go_wp2_with fail
 go_ret2
 exact ⟨by rw[HT.out,←HOR.out];rfl,hb1⟩
def zht (b:Bk):Nat:=if zhs b=true then zcg b else 0
set_option maxRecDepth 100000 in
set_option maxHeartbeats 1600000 in
theorem zqb (b:Bk) (w:World):Calls Tryz.prog 105 #[b.val] w fun e w'=>e=.returned (.tuple #[.int .u64 (zht b:Nat),.int .i64 (zhr b)])∧Below w.heap.size w w':=by
 cases hb:zhs b
 · have HV:=hid (show zht b=0 by simp[zht,hb])
   have HE:=hid (zmf hb)
   have HC:=hid (fun W=>zqz b W)
   clear hb
   obtain ⟨xa,xs,xk,xt,xm,xn⟩:=b
   unfold Bk.val at HC ⊢
   dsimp only at HC ⊢
   go_enter Tryz.func105,Tryz.ntmps105
   go_wp2_with fail
   refine (HC.out _).mono ?_
   rintro e w1 ⟨rfl,hB1⟩
   rw[World.size_alloc] at hB1
   rw[HE.out]
   go_wp2_with fail
   go_ret2
   exact ⟨by rw[HV.out,HE.out];rfl,zan hB1⟩
 · have HV:=hid (show zht b=zkl b+zgi (zkl b) % 4294967296 * 4294967296 by simp[zht,hb,zcg])
   have HE:=hid (zg7 hb)
   have HC:=hid (fun W=>zqz b W)
   have HO:=hid (fun W=>hdOf_c b W hb)
   have HL:=hid (zvh hb)
   clear hb
   obtain ⟨q,hq⟩:∃ q,zkl b=q:=⟨_,rfl⟩
   have HQ:=hid hq
   rw[hq] at HV HL
   clear hq
   obtain ⟨xa,xs,xk,xt,xm,xn⟩:=b
   unfold Bk.val at HC HO ⊢
   dsimp only at HC HO ⊢
   go_enter Tryz.func105,Tryz.ntmps105
   go_wp2_with fail
   refine (HC.out _).mono ?_
   rintro e w1 ⟨rfl,hB1⟩
   rw[World.size_alloc] at hB1
   have hb1:=zan hB1
   have bx:=Bx.of_new hB1
   obtain ⟨c0,c1,c2,c3,c4,c5,-,hz⟩:=bx.c6
   rw[HE.out]
   clear bx hB1
   go_wp2_with fail
   refine (HO.out _).mono ?_
   rintro e w2 ⟨⟨a1,a2,a3,a4,rfl⟩,hB2⟩
   have hb2:=hb1.trans (hB2.mono hb1.size)
   rw[HQ.out]
   have hfld:∀ W,(Instr.field 231 (.agg #[.int .u64 (q:Int),a1,a2,a3,a4]) 0).run Tryz.prog W=.ok (.int .u64 (q:Int)) W:=fun _=>by kernel_rfl
   go_wp2_with fail
   refine (zFc q _ HL.out).mono ?_
   rintro e w3 ⟨rfl,hB3⟩
   have hb3:=hb2.trans (hB3.mono hb2.size)
   rw[←HV.out]
   go_wp2_with fail
   go_ret2
   exact ⟨by rw[HE.out];rfl,hb3⟩
end Go.Proofs.YtpcajamacpbjcaaGreat
namespace Go.Proofs.YtpcajamacpbjcaaGreat
open Lib (hid)
open Go.RowKit
def zlv:Bk:=⟨0,0,0,0,false,0⟩
def zEh (w:Nat):Bk:=if zar w=true then zaf w else zlv
def zmi (w:Nat):Int:=if zar w=true then 0 else 50
theorem zlq {w:Nat} (h:zar w=true):zEh w=zaf w∧zmi w=0:=by simp[zEh,zmi,h]
theorem zln {w:Nat} (h:zar w=false):zEh w=zlv∧zmi w=50:=by simp[zEh,zmi,h]
theorem zuh {x k m:Nat} (hx:x<18446744073709551616) (hm:m=2 ^ k - 1) (hk:m<18446744073709551616):bits BinOp.and .u64 (x:Int) (m:Int)=((x % 2 ^ k:Nat):Int):=by
 rw[u64_and_nat x m hx hk,hm,Nat.and_two_pow_sub_one_eq_mod]
theorem ztf (w:Nat) (hw:w<18446744073709551616):bits BinOp.and .u64 (w:Int) 255=((w % 256:Nat):Int)∧bits BinOp.and .u64 ((w:Int) / 256) 1=((w / 256 % 2:Nat):Int)∧bits BinOp.and .u64 ((w:Int) / 512) 127=((w / 512 % 128:Nat):Int)∧bits BinOp.and .u64 ((w:Int) / 65536) 65535=((w / 65536 % 65536:Nat):Int):=
 ⟨zuh (k:=8) (m:=255) hw (by decide) (by omega),zuh (x:=w / 256) (k:=1) (m:=1) (by omega) (by decide) (by omega),zuh (x:=w / 512) (k:=7) (m:=127) (by omega) (by decide) (by omega),zuh (x:=w / 65536) (k:=16) (m:=65535) (by omega) (by decide) (by omega)⟩
theorem za6 {fn:Func} {p q:Tmp} (h:fn.results=#[.cell p 55,.tmp q]) (tmps:Array Value) {W:World} {g:Nat} {t:TypeId} {v0 v1 v2 v3 v4 v5 u:Value} (hb:Bx W g t #[v0,v1,v2,v3,v4,v5]) (hp:tmps.getD p undef=.pointer (some ⟨g,0,none⟩)) (hq:tmps.getD q undef=u) :
  (results fn tmps).run Tryz.prog W=.ok (.tuple #[.agg #[v0,v1,v2,v3,v4,v5],u]) W:=by
 obtain ⟨c0,c1,c2,c3,c4,c5,-,-⟩:=hb.c6
 rw[Array.getD_eq_getD_getElem?] at hp hq
 simp[results,h,hp,hq,go_sem,c0,c1,c2,c3,c4,c5]
set_option maxRecDepth 100000 in
set_option maxHeartbeats 1600000 in
theorem znq (x:Nat) (w:World) (hx:x<18446744073709551616):Calls Tryz.prog 172 #[.int .u64 (x:Int)] w fun e w'=>e=.returned (.tuple #[(zEh x).val,.int .i64 (zmi x)])∧Below w.heap.size w w':=by
 obtain ⟨e1,e2,e3,e4⟩:=ztf x hx
 have HW:=hid (fun W=>zqb (zaf x) W)
 have HE0:Hid (zhr (zaf x)=0→zht (zaf x)=x→zEh x=zaf x∧zmi x=0):=hid fun h1 h2=>zlq (by
   have hb:zhs (zaf x)=true:=by
     cases hq:zhs (zaf x) with
     | true=>rfl
     | false=>rw[zmf hq] at h1;cases h1
   simp only[zht,hb,if_true] at h2
   simp[zar,hb,h2])
 have HE1:Hid (zhr (zaf x)≠0∨zht (zaf x)≠x→zEh x=zlv∧zmi x=50):=hid fun h=>zln (by
   cases hq:zhs (zaf x) with
   | false=>simp[zar,hq]
   | true =>
     rcases h with h|h
     · exact absurd (zg7 hq) h
     · simp only[zht,hq,if_true] at h
       simp[zar,hq,h])
 have hx0:(0:Int)≤(x:Int):=by omega
 have hraw:(zaf x).val=.agg #[.int .i64 0,.int .i64 ((x / 65536 % 65536:Nat):Int),.int .i64 ((x % 256:Nat):Int),.int .i64 ((x / 512 % 128:Nat):Int),.bool (x / 256 % 2 == 1),.int .u64 0]:=rfl
 have m1:x % 256<256:=Nat.mod_lt _ (by omega)
 have m2:x / 256 % 2<2:=Nat.mod_lt _ (by omega)
 have m3:x / 512 % 128<128:=Nat.mod_lt _ (by omega)
 have m4:x / 65536 % 65536<65536:=Nat.mod_lt _ (by omega)
 rw[hraw] at HW
 have HRAW:=hid hraw
 have hbit:((((x / 256 % 2:Nat):Int)) == 1)=(x / 256 % 2 == 1):=by
   rw[Bool.eq_iff_iff,beq_iff_eq,beq_iff_eq];omega
 obtain ⟨K,hK⟩:∃ K,x % 256=K:=⟨_,rfl⟩
 obtain ⟨M,hM⟩:∃ M,x / 256 % 2=M:=⟨_,rfl⟩
 obtain ⟨T,hT⟩:∃ T,x / 512 % 128=T:=⟨_,rfl⟩
 obtain ⟨S,hS⟩:∃ S,x / 65536 % 65536=S:=⟨_,rfl⟩
 rw[hK] at e1 m1 HW HRAW
 rw[hM] at e2 m2 hbit HW HRAW
 rw[hT] at e3 m3 HW HRAW
 rw[hS] at e4 m4 HW HRAW
 obtain ⟨bm,hbm⟩:∃ b,(M == 1)=b:=⟨_,rfl⟩
 rw[hbm] at hbit HW HRAW
 obtain ⟨V,hV⟩:∃ V,zht (zaf x)=V:=⟨_,rfl⟩
 obtain ⟨R,hR⟩:∃ R,zhr (zaf x)=R:=⟨_,rfl⟩
 rw[hV,hR] at HE0 HE1 HW
 clear hx hraw hK hM hT hS hbm hV hR
 go_enter Tryz.func172,Tryz.ntmps172
 go_wp2_with fail
 have q0:=(Bx.new w 55 #[.int .i64 0,.int .i64 0,.int .i64 0,.int .i64 0,.bool false,.int .u64 0]).alloc (.cells #[.int .i64 0,.int .i64 (S:Int),.int .i64 (K:Int),.int .i64 (T:Int),.bool bm,.int .u64 0] 55)
 have q1:=Bx.new (w.alloc (.cells #[.int .i64 0,.int .i64 0,.int .i64 0,.int .i64 0,.bool false,.int .u64 0] 55)) 55 #[.int .i64 0,.int .i64 (S:Int),.int .i64 (K:Int),.int .i64 (T:Int),.bool bm,.int .u64 0]
 have hb0:Below w.heap.size w ((w.alloc (.cells #[.int .i64 0,.int .i64 0,.int .i64 0,.int .i64 0,.bool false,.int .u64 0] 55)).alloc (.cells #[.int .i64 0,.int .i64 (S:Int),.int .i64 (K:Int),.int .i64 (T:Int),.bool bm,.int .u64 0] 55)):=((Below.refl _ _).alloc (Nat.le_refl _) _).alloc (by simp) _
 have hsz:((w.alloc (.cells #[.int .i64 0,.int .i64 0,.int .i64 0,.int .i64 0,.bool false,.int .u64 0] 55)).alloc (.cells #[.int .i64 0,.int .i64 (S:Int),.int .i64 (K:Int),.int .i64 (T:Int),.bool bm,.int .u64 0] 55)).heap.size=w.heap.size+2:=by simp
 rw[World.size_alloc] at q1
 obtain ⟨W0,hW0⟩:∃ W0,(w.alloc (.cells #[.int .i64 0,.int .i64 0,.int .i64 0,.int .i64 0,.bool false,.int .u64 0] 55)).alloc (.cells #[.int .i64 0,.int .i64 (S:Int),.int .i64 (K:Int),.int .i64 (T:Int),.bool bm,.int .u64 0] 55)=W0:=⟨_,rfl⟩
 rw[hW0] at q0 q1 hb0 hsz ⊢
 clear hW0
 refine (HW.out W0).mono ?_
 rintro e w1 ⟨rfl,hB1⟩
 have hb1:=hb0.trans (hB1.mono hb0.size)
 obtain ⟨c0,c1,c2,c3,c4,c5,cf,cz⟩:=(q0.up hB1 (by omega)).c6
 obtain ⟨d0,d1,d2,d3,d4,d5,df,dz⟩:=(q1.up hB1 (by omega)).c6
 have cf0:=cf 0
 have cf1:=cf 1
 have cf2:=cf 2
 have cf3:=cf 3
 have cf4:=cf 4
 have cf5:=cf 5
 have Q0:=hid (q0.up hB1 (by omega))
 clear q0 q1 hB1 hb0 hsz cf df e1 e2 e3 e4 hbit m1 m2 m3 m4
 by_cases hR:R=0
 · by_cases hV:V=x
   · obtain ⟨g1,g2⟩:=HE0.out hR hV
     have G1:=hid g1
     have G2:=hid g2
     have hr1:(R != 0)=false:=by rw[bne_eq_false_iff_eq];exact hR
     have hv1:((V:Int) != (x:Int))=false:=by rw[bne_eq_false_iff_eq];omega
     clear hR hV g1 g2
     go_wp2_with fail
     refine bodyPost_ret (v:=.tuple #[.agg #[.int .i64 0,.int .i64 (S:Int),.int .i64 (K:Int),.int .i64 (T:Int),.bool bm,.int .u64 0],.int .i64 0]) (za6 Tryz.results172 _ ((((((Q0.out.set_ 0 _).set_ 1 _).set_ 2 _).set_ 3 _).set_ 4 _).set_ 5 _) rfl rfl) rfl ⟨by rw[G1.out,G2.out,HRAW.out],?_⟩
     exact (Below.setCell (p:=⟨w.heap.size,5,none⟩) (Below.setCell (p:=⟨w.heap.size,4,none⟩) (Below.setCell (p:=⟨w.heap.size,3,none⟩) (Below.setCell (p:=⟨w.heap.size,2,none⟩) (Below.setCell (p:=⟨w.heap.size,1,none⟩) (Below.setCell (p:=⟨w.heap.size,0,none⟩) hb1 (Nat.le_refl _) _) (Nat.le_refl _) _) (Nat.le_refl _) _) (Nat.le_refl _) _) (Nat.le_refl _) _) (Nat.le_refl _) _)
   · obtain ⟨g1,g2⟩:=HE1.out (.inr hV)
     have G1:=hid g1
     have G2:=hid g2
     have hr1:(R != 0)=false:=by rw[bne_eq_false_iff_eq];exact hR
     have hv1:((V:Int) != (x:Int))=true:=by rw[bne_iff_ne];omega
     clear hR hV g1 g2
     go_wp2_with fail
     refine bodyPost_ret (v:=.tuple #[.agg #[.int .i64 0,.int .i64 0,.int .i64 0,.int .i64 0,.bool false,.int .u64 0],.int .i64 50]) (za6 Tryz.results172 _ ((((((Q0.out.set_ 0 _).set_ 1 _).set_ 2 _).set_ 3 _).set_ 4 _).set_ 5 _) rfl rfl) rfl ⟨by rw[G1.out,G2.out];rfl,?_⟩
     exact (Below.setCell (p:=⟨w.heap.size,5,none⟩) (Below.setCell (p:=⟨w.heap.size,4,none⟩) (Below.setCell (p:=⟨w.heap.size,3,none⟩) (Below.setCell (p:=⟨w.heap.size,2,none⟩) (Below.setCell (p:=⟨w.heap.size,1,none⟩) (Below.setCell (p:=⟨w.heap.size,0,none⟩) hb1 (Nat.le_refl _) _) (Nat.le_refl _) _) (Nat.le_refl _) _) (Nat.le_refl _) _) (Nat.le_refl _) _) (Nat.le_refl _) _)
 · obtain ⟨g1,g2⟩:=HE1.out (.inl hR)
   have G1:=hid g1
   have G2:=hid g2
   have hr1:(R != 0)=true:=by rw[bne_iff_ne];exact hR
   clear hR g1 g2
   go_wp2_with fail
   refine bodyPost_ret (v:=.tuple #[.agg #[.int .i64 0,.int .i64 0,.int .i64 0,.int .i64 0,.bool false,.int .u64 0],.int .i64 50]) (za6 Tryz.results172 _ ((((((Q0.out.set_ 0 _).set_ 1 _).set_ 2 _).set_ 3 _).set_ 4 _).set_ 5 _) rfl rfl) rfl ⟨by rw[G1.out,G2.out];rfl,?_⟩
   exact (Below.setCell (p:=⟨w.heap.size,5,none⟩) (Below.setCell (p:=⟨w.heap.size,4,none⟩) (Below.setCell (p:=⟨w.heap.size,3,none⟩) (Below.setCell (p:=⟨w.heap.size,2,none⟩) (Below.setCell (p:=⟨w.heap.size,1,none⟩) (Below.setCell (p:=⟨w.heap.size,0,none⟩) hb1 (Nat.le_refl _) _) (Nat.le_refl _) _) (Nat.le_refl _) _) (Nat.le_refl _) _) (Nat.le_refl _) _) (Nat.le_refl _) _)
end Go.Proofs.YtpcajamacpbjcaaGreat
namespace Go.Proofs.YtpcajamacpbjcaaGreat
open Lib (hid)
open Go.RowKit
def stB (ws:List Nat) (a:Nat):Bk:=if stands ws a=true then bkAt ws a else zlv
def zte (ws:List Nat) (a:Nat):Int:=if stands ws a=true then 0 else 50
theorem zy3 {ws:List Nat} {a:Nat} (h:stands ws a=true):stB ws a=bkAt ws a∧zte ws a=0:=by simp[stB,zte,h]
theorem zAx {ws:List Nat} {a:Nat} (h:stands ws a=false):stB ws a=zlv∧zte ws a=50:=by simp[stB,zte,h]
theorem zcb {ws:List Nat} {i:Nat} (h:i<ws.length):wd ws i=ws[i]:=by simp[wd,h]
theorem ze6 {ws:List Nat} (ho:∀ x ∈ ws,x<18446744073709551616) (i:Nat):wd ws i<18446744073709551616:=by
 by_cases h:i<ws.length
 · rw[zcb h];exact ho _ (List.getElem_mem h)
 · simp[wd,h]
theorem zlf {w:World} {g:Nat} {t:TypeId} {x0 x1 x2 x3 x4 x5:Value} (h:Bx w g t #[x0,x1,x2,x3,x4,x5]) (u0 u1 u2 u3 u4 u5:Value) :
  Bx ((((((w.setCell ⟨g,0,none⟩ u0).setCell ⟨g,1,none⟩ u1).setCell ⟨g,2,none⟩ u2).setCell ⟨g,3,none⟩ u3).setCell ⟨g,4,none⟩ u4).setCell ⟨g,5,none⟩ u5) g t #[u0,u1,u2,u3,u4,u5]:=
 (((((h.set_ 0 u0).set_ 1 u1).set_ 2 u2).set_ 3 u3).set_ 4 u4).set_ 5 u5
theorem zfd {B:Nat} {w0 w:World} {g:Nat} (h:Below B w0 w) (hg:B≤g) (u0 u1 u2 u3 u4 u5:Value) :
  Below B w0 ((((((w.setCell ⟨g,0,none⟩ u0).setCell ⟨g,1,none⟩ u1).setCell ⟨g,2,none⟩ u2).setCell ⟨g,3,none⟩ u3).setCell ⟨g,4,none⟩ u4).setCell ⟨g,5,none⟩ u5):=
 (((((h.setCell (p:=⟨g,0,none⟩) hg u0).setCell (p:=⟨g,1,none⟩) hg u1).setCell (p:=⟨g,2,none⟩) hg u2).setCell (p:=⟨g,3,none⟩) hg u3).setCell (p:=⟨g,4,none⟩) hg u4).setCell (p:=⟨g,5,none⟩) hg u5
set_option maxRecDepth 100000 in
set_option maxHeartbeats 1600000 in
theorem zma (A:Option Addr) (ws:List Nat) (c n a:Nat) (w:World) (hn:ws.length=n) (hm:n≤1000000) (ha:a+1<n) (hr:RdW w w.heap.size A ws) (ho:∀ x ∈ ws,x<18446744073709551616) :
   Calls Tryz.prog 112 #[.slice A n c,.int .i64 (a:Int)] w fun e w'=>e=.returned (.tuple #[(stB ws a).val,.int .i64 (zte ws a)])∧Below w.heap.size w w':=by
 subst hn
 have HR:=hid hr
 have hx:=ze6 ho a
 have HSP:=hid (fun W=>znq (wd ws a) W hx)
 obtain ⟨b,off,rfl,hb,h0⟩:=RdW.at_ hr (show a<ws.length by omega)
 obtain ⟨b',off',e',-,h1⟩:=RdW.at_ hr ha
 cases e'
 rw[←zcb] at h0 h1
 have ik0:(0:Int)≤(a:Int):=by omega
 have ik1:(a:Int)<(ws.length:Int):=by omega
 have ik2:(a:Int)+1<(ws.length:Int):=by omega
 have ik3:(0:Int)≤(a:Int)+1:=by omega
 have htn:((a:Int)+1).toNat=a+1:=by omega
 have hraw:(zaf (wd ws a)).val=.agg #[.int .i64 0,.int .i64 ((szAt ws a:Nat):Int),.int .i64 ((wd ws a % 256:Nat):Int),.int .i64 ((wd ws a / 512 % 128:Nat):Int),.bool (wd ws a / 256 % 2 == 1),.int .u64 0]:=rfl
 have hbk:(bkAt ws a).val=.agg #[.int .i64 (a:Int),.int .i64 ((szAt ws a:Nat):Int),.int .i64 ((wd ws a % 256:Nat):Int),.int .i64 ((wd ws a / 512 % 128:Nat):Int),.bool (wd ws a / 256 % 2 == 1),.int .u64 ((wd ws (a+1):Nat):Int)]:=rfl
 have hsb:szAt ws a<65536:=Nat.mod_lt _ (by omega)
 have HST:Hid (stands ws a=(zar (wd ws a) && decide ((szAt ws a:Int)≤(ws.length:Int) - a))):=hid rfl
 have HNO:Hid (stands ws a=false→stB ws a=zlv∧zte ws a=50):=hid zAx
 have HOK:Hid (stands ws a=true→stB ws a=bkAt ws a∧zte ws a=0):=hid zy3
 cases hs:zar (wd ws a)
 · obtain ⟨g1,g2⟩:=HNO.out (by rw[HST.out,hs];rfl)
   obtain ⟨s1,s2⟩:=zln hs
   rw[s1,s2] at HSP
   have G1:=hid g1
   have G2:=hid g2
   clear hr hraw hbk hs g1 g2 s1 s2 hx
   unfold Bk.val zlv at HSP
   dsimp only at HSP
   obtain ⟨x,hx⟩:∃ x,wd ws a=x:=⟨_,rfl⟩
   rw[hx] at h0 HSP
   clear hx
   go_enter Tryz.func112,Tryz.ntmps112
   go_wp2_with fail
   refine (HSP.out _).mono ?_
   rintro e w1 ⟨rfl,hB1⟩
   rw[World.size_alloc] at hB1
   have bx:=Bx.of_new hB1
   have hb1:=zan hB1
   have Q0:=hid bx
   obtain ⟨c0,c1,c2,c3,c4,c5,cf,cz⟩:=bx.c6
   have cf0:=cf 0
   have cf1:=cf 1
   have cf2:=cf 2
   have cf3:=cf 3
   have cf4:=cf 4
   have cf5:=cf 5
   clear bx cf hB1
   go_wp2_with fail
   refine bodyPost_ret (v:=.tuple #[.agg #[.int .i64 0,.int .i64 0,.int .i64 0,.int .i64 0,.bool false,.int .u64 0],.int .i64 50]) (za6 Tryz.results112 _ ((zlf Q0.out _ _ _ _ _ _).alloc _) rfl rfl) rfl ⟨by rw[G1.out,G2.out];rfl,(zfd hb1 (Nat.le_refl _) _ _ _ _ _ _).alloc (by simp;have:=hb1.size;omega) _⟩
 · obtain ⟨s1,s2⟩:=zlq hs
   rw[s1,s2,hraw] at HSP
   have HBK:=hid hbk
   obtain ⟨S,hS⟩:∃ S,szAt ws a=S:=⟨_,rfl⟩
   obtain ⟨K,hK⟩:∃ K,wd ws a % 256=K:=⟨_,rfl⟩
   obtain ⟨T,hT⟩:∃ T,wd ws a / 512 % 128=T:=⟨_,rfl⟩
   obtain ⟨M,hM⟩:∃ M,(wd ws a / 256 % 2 == 1)=M:=⟨_,rfl⟩
   rw[hS,hK,hT,hM] at HSP HBK
   rw[hS] at hsb HST
   rw[hs,Bool.true_and] at HST
   obtain ⟨x,hx2⟩:∃ x,wd ws a=x:=⟨_,rfl⟩
   obtain ⟨y,hy2⟩:∃ y,wd ws (a+1)=y:=⟨_,rfl⟩
   rw[hx2] at h0 HSP
   rw[hy2] at h1 HBK
   clear hr hraw hbk hs s1 s2 hx hS hK hT hM hx2 hy2
   by_cases hbig:(ws.length:Int) - a<S
   · obtain ⟨g1,g2⟩:=HNO.out (by rw[HST.out,decide_eq_false_iff_not];omega)
     have G1:=hid g1
     have G2:=hid g2
     clear g1 g2
     go_enter Tryz.func112,Tryz.ntmps112
     go_wp2_with fail
     refine (HSP.out _).mono ?_
     rintro e w1 ⟨rfl,hB1⟩
     rw[World.size_alloc] at hB1
     have bx:=Bx.of_new hB1
     have hb1:=zan hB1
     have Q0:=hid bx
     obtain ⟨c0,c1,c2,c3,c4,c5,cf,cz⟩:=bx.c6
     have cf0:=cf 0
     have cf1:=cf 1
     have cf2:=cf 2
     have cf3:=cf 3
     have cf4:=cf 4
     have cf5:=cf 5
     clear bx cf hB1
     go_wp2_with fail
     refine bodyPost_ret (v:=.tuple #[.agg #[.int .i64 0,.int .i64 0,.int .i64 0,.int .i64 0,.bool false,.int .u64 0],.int .i64 50]) (za6 Tryz.results112 _ ((zlf Q0.out _ _ _ _ _ _).alloc _) rfl rfl) rfl ⟨by rw[G1.out,G2.out];rfl,(zfd hb1 (Nat.le_refl _) _ _ _ _ _ _).alloc (by simp;have:=hb1.size;omega) _⟩
   · obtain ⟨g1,g2⟩:=HOK.out (by rw[HST.out,decide_eq_true_iff];omega)
     have G1:=hid g1
     have G2:=hid g2
     have hle:(S:Int)≤(ws.length:Int) - a:=by omega
     clear g1 g2 hbig
     go_enter Tryz.func112,Tryz.ntmps112
     go_wp2_with fail
     refine (HSP.out _).mono ?_
     rintro e w1 ⟨rfl,hB1⟩
     rw[World.size_alloc] at hB1
     have bx:=Bx.of_new hB1
     have hb1:=zan hB1
     have Q0:=hid bx
     obtain ⟨c0,c1,c2,c3,c4,c5,cf,cz⟩:=bx.c6
     have cf0:=cf 0
     have cf1:=cf 1
     have cf2:=cf 2
     have cf3:=cf 3
     have cf4:=cf 4
     have cf5:=cf 5
     clear bx cf hB1
     have hbw:b<w1.heap.size:=by have:=hb1.size;omega
     have h1':=(hb1.cell (p:=⟨b,off+(a+1),none⟩) hb).trans h1
     have hwr:IntKind.i64.wrap ((a:Int)+1)=(a:Int)+1:=IntWalk.i64_in _ (by omega)
     go_wp2_with fail
     have hne:=World.new_ne w1 ⟨b,off+(a+1),none⟩ h1'
     go_region_held3 (fun X:World=>X.cell? ⟨b,off+(a+1),none⟩=some (.int .u64 (y:Int))) (go_keep) (fail)
     all_goals
      go_wp2_with fail
      refine bodyPost_ret (v:=.tuple #[.agg #[.int .i64 (a:Int),.int .i64 (S:Int),.int .i64 (K:Int),.int .i64 (T:Int),.bool M,.int .u64 (y:Int)],.int .i64 0]) (za6 Tryz.results112 _ (show Bx (World.drew _) _ _ _ from (zlf Q0.out _ _ _ _ _ _).alloc _) rfl rfl) rfl ⟨by rw[G1.out,G2.out,HBK.out],((zfd hb1 (Nat.le_refl _) _ _ _ _ _ _).alloc (by simp;have:=hb1.size;omega) _).drew⟩
end Go.Proofs.YtpcajamacpbjcaaGreat
namespace Go.Proofs.YtpcajamacpbjcaaGreat
open Lib (hid)
open Go.RowKit
def ze0 (n:Nat) (a:Int):Bool:=decide (a<128) || (decide ((n:Int)<a) || a % 2 != 0)
def zca (ws:List Nat) (a:Int):Int:=if zah (ws.length:Int)=true then (if ze0 ws.length a=true then 2 else (match blocks ws a.toNat with | none=>50 | some _=>0)) else 8
def za5 (ws:List Nat) (a:Int):List Bk:=if zca ws a=0 then (blocks ws a.toNat).getD [] else []
def zph (ws:List Nat) (a:Int) (e:Ending) (w':World):Prop:=∃ A c,e=.returned (.tuple #[.slice A (za5 ws a).length c,.int .i64 (zca ws a)])∧RdB w' w'.heap.size A (za5 ws a)∧(za5 ws a).length≤c
theorem zff {ws:List Nat} {a:Int} (h:zah (ws.length:Int)=false):zca ws a=8:=by simp[zca,h]
theorem zhw {ws:List Nat} {a:Int} (h:zah (ws.length:Int)=true) (h2:ze0 ws.length a=true):zca ws a=2:=by simp[zca,h,h2]
theorem zeh {ws:List Nat} {a:Int} (h:zah (ws.length:Int)=true) (h2:ze0 ws.length a=false) (h3:blocks ws a.toNat=none):zca ws a=50:=by simp[zca,h,h2,h3]
theorem zci {ws:List Nat} {a:Int} (h:zah (ws.length:Int)=true) (h2:ze0 ws.length a=false) {l:List Bk} (h3:blocks ws a.toNat=some l):zca ws a=0∧za5 ws a=l:=by
 have:zca ws a=0:=by simp[zca,h,h2,h3]
 exact ⟨this,by simp[za5,this,h3]⟩
theorem zl0 {n:Nat} {a:Int} (h:ze0 n a=false):128≤a∧a≤(n:Int)∧a % 2=0:=by
 simp only[ze0,Bool.or_eq_false_iff,decide_eq_false_iff_not,bne_eq_false_iff_eq] at h
 omega
theorem znm {n:Nat} {a:Int} (h:¬ (128≤a∧a≤(n:Int)∧a % 2=0)):ze0 n a=true:=by
 cases hq:ze0 n a with
 | true=>rfl
 | false=>exact absurd (zl0 hq) h
theorem zkb {ws:List Nat} {a r:Int} {w':World} (hr:zca ws a=r) (h0:r≠0):zph ws a (.returned (.tuple #[.slice none 0 0,.int .i64 r])) w':=by
 subst hr
 have:za5 ws a=[]:=by simp[za5,h0]
 exact ⟨none,0,by rw[this];rfl,by rw[this];exact Rd.nil_,by rw[this];simp⟩
theorem zBx {H:Nat} {ws:List Nat} {a:Int} {v:Value} {w':World} {l:List Bk} (h0:zca ws a=0) (hl:za5 ws a=l) (h:w'.ownsRow H 55 6 v l.length (l.flatMap Bk.cells)):zph ws a (.returned (.tuple #[v,.int .i64 0])) w':=by
 have hc:∃ A c,v=.slice A l.length c∧l.length≤c:=by
  rcases h.2 with ⟨rfl,hnil⟩|⟨g,cap,cur,rfl,_,_,hle,_⟩
  · exact ⟨none,0,by rw[hnil],by omega⟩
  · exact ⟨_,_,rfl,hle⟩
 obtain ⟨A,c,rfl,hle⟩:=hc
 exact ⟨A,c,by rw[hl,h0],by rw[hl];exact Rd.of_own h,by rw[hl];exact hle⟩
theorem zjr:(Tryz.prog.info? 55).map (fun i=>(i.zero,i.size,i.bytes))=some (some (.agg #[.int .i64 0,.int .i64 0,.int .i64 0,.int .i64 0,.bool false,.int .u64 0]),6,48):=by kernel_rfl
theorem zqr {w:World} {H:Nat} {e:TypeId} {sz n:Nat} {v:Value} {xs:List Value} (hown:w.ownsRow H e sz v n xs):some w.heap.size≠v.ownBlock:=fun h=>by
 have:=(hown.lt _ h.symm).2;omega
theorem zk4 (w:World) (cs:List Value) (t:TypeId) {H:Nat} (h:w.heap.size=H):∀ j u,cs[j]? = some u→(w.alloc (.cells cs.toArray t)).cell? ((⟨H,0,none⟩:Addr).add j)=some u:=by
 subst h;exact zcl w cs t
set_option maxRecDepth 100000 in
set_option maxHeartbeats 1600000 in
theorem zlm (A:Option Addr) (ws:List Nat) (c n:Nat) (a:Int) (w:World) (hn:ws.length=n) (hm:n≤9223372036854775807) (hr:RdW w w.heap.size A ws) (ho:∀ x ∈ ws,x<18446744073709551616) :
   Calls Tryz.prog 65 #[.slice A n c,.int .i64 a] w fun e w'=>zph ws a e w'∧Below w.heap.size w w':=by
 subst hn
 have HR:=hid hr
 have HO:=hid ho
 clear hr ho
 cases hs:zah (ws.length:Int)
 · have HI:=hid (zbw hs)
   have HE:=hid (zff (a:=a) hs)
   clear hs
   go_enter Tryz.func65,Tryz.ntmps65
   go_wp2_with fail
   refine (zay A ws.length c w hm).mono ?_
   rintro e w1 ⟨rfl,rfl⟩
   rw[HI.out]
   go_wp2_with fail
   go_ret2
   exact ⟨zkb HE.out (by omega),Below.refl _ _⟩
 · have HI:=hid (zbc hs)
   have HS:=hid hs
   have hb:=zi5 (zbc hs)
   obtain ⟨hb1,hb2,hb3⟩:=hb
   have HB3:=hid hb3
   clear hs hm hb3
   by_cases hbad:128≤a∧a≤(ws.length:Int)∧a % 2=0
   · obtain ⟨a1,a2,a3⟩:=hbad
     have HAR:Hid (ze0 ws.length a=false):=hid (by
       simp only[ze0,Bool.or_eq_false_iff,decide_eq_false_iff_not,bne_eq_false_iff_eq];omega)
     have hev:(a % 2 != 0)=false:=by rw[bne_eq_false_iff_eq];exact a3
     have d1:decide (a<128)=false:=by rw[decide_eq_false_iff_not];omega
     have d2:decide ((ws.length:Int)<a)=false:=by rw[decide_eq_false_iff_not];omega
     have HA3:=hid a3
     obtain ⟨i0,rfl⟩:=Int.eq_ofNat_of_zero_le (show 0≤a by omega)
     have d2n:decide (ws.length<i0)=false:=by rw[decide_eq_false_iff_not];omega
     clear a3
     obtain ⟨i2,hi,hz0,hz1,hz2⟩:=info_parts zjr
     have HJ:=hid hi
     have HJ0:=hid hz0
     have HJ1:=hid hz1
     have HJ2:=hid hz2
     clear hi hz0 hz1 hz2
     go_enter Tryz.func65,Tryz.ntmps65
     go_wp2_with fail
     refine (zay A ws.length c w (by omega)).mono ?_
     rintro e w1 ⟨rfl,rfl⟩
     rw[HI.out]
     go_wp2_with fail
     go_loopw [1,7] (fun p v wr=>∃ (i:Nat) (acc:List Bk),p=.int .i64 i∧i0≤i∧i≤ws.length∧i % 2=0∧blocks ws i0=(blocks ws i).map (acc ++ ·)∧acc.length≤i∧wr.ownsRow w.heap.size 55 6 v acc.length (acc.flatMap Bk.cells)∧Below w.heap.size w wr) (fun p _ _=>ws.length - (intOf p).toNat)
     case atStart=>exact ⟨i0,[],rfl,Nat.le_refl _,by omega,by have:=HA3.out;omega,by simp,by simp,World.ownsRow_nil _ _ _ _,Below.refl _ _⟩
     case round =>
       obtain ⟨i,acc,rfl,q1,q2,q3,q4,q5,hown,hB⟩:=hrel
       have hz:=hB.size
       have HQ3:=hid q3
       have HQ4:=hid q4
       clear q4
       by_cases hlt:i<ws.length
       · have hlt1:i+1<ws.length:=by have:=HB3.out;omega
         clear q3
         have ik1:(i:Int)<(ws.length:Int):=by omega
         cases hst:stands ws i
         · have HN:=hid (zeh HS.out HAR.out (by rw[Int.toNat_natCast,HQ4.out,zc0 hlt hst];rfl))
           obtain ⟨g1,g2⟩:=zAx hst
           have HC:=hid (zma A ws c ws.length i wr rfl (by omega) hlt1 (HR.out.up hB hz) HO.out)
           rw[g1,g2] at HC
           unfold zlv Bk.val at HC
           dsimp only at HC
           clear hst g1 g2 hown
           go_wp2_with fail
           refine HC.out.mono ?_
           rintro e w1 ⟨rfl,hB1⟩
           have hb1:=hB.trans (hB1.mono hz)
           go_wp2_with fail
           go_ret2
           exact ⟨zkb HN.out (by omega),hb1.alloc hb1.size _⟩
         · have hsz:=zav hst
           obtain ⟨g1,g2⟩:=zy3 hst
           have HC:=hid (zma A ws c ws.length i wr rfl (by omega) hlt1 (HR.out.up hB hz) HO.out)
           rw[g1,g2] at HC
           have HNX:=hid (show blocks ws i0=(blocks ws (i+szAt ws i)).map ((acc++[bkAt ws i]) ++ ·) by
            rw[HQ4.out,zaz hlt hst]
            cases blocks ws (i+szAt ws i) <;> simp)
           have HFL:=hid (zb6 Bk.cells acc (bkAt ws i))
           have hss:=zba ws i
           obtain ⟨x,hx⟩:∃ x,bkAt ws i=x:=⟨_,rfl⟩
           obtain ⟨z,hzz⟩:∃ z,szAt ws i=z:=⟨_,rfl⟩
           rw[hx] at HC HNX HFL hss
           rw[hzz] at HNX hsz hss
           have HX:=hid hx
           obtain ⟨xa,xs,xk,xt,xm,xn⟩:=x
           dsimp only at hss
           subst hss
           unfold Bk.val at HC
           dsimp only at HC
           obtain ⟨z1,z2,z3⟩:=hsz
           have HZ2:=hid z2
           clear hst g1 g2 hx hzz z2
           go_wp2_with fail
           refine HC.out.mono ?_
           rintro e w1 ⟨rfl,hB1⟩
           have hb1:=hB.trans (hB1.mono hz)
           have hownw:=zak hown hB1 (Nat.le_refl _)
           have hz1:=hb1.size
           go_wp2_with (at_builtin;refine wpList_append_own _ rfl _ _ 48 rfl w.heap.size 55 i2 _ 6 48 Tryz.underlying48 HJ.out HJ0.out HJ1.out HJ2.out rfl (by decide) _ _ _ rfl ((hownw.alloc _).alloc _) ⟨_,0,none⟩ 1 1 [.int .i64 xa,.int .i64 (z:Int),.int .i64 xk,.int .i64 xt,.bool xm,.int .u64 (xn:Int)] rfl rfl (zk4 _ _ _ (World.size_alloc _ _)) (by simp[Value.oneCell']) (by unfold maxLen;omega) (by omega) (by simp;omega) ?_;intro v1 w2 hown1 hg1 _;have hbx:Bx w2 w1.heap.size 55 #[.int .i64 xa,.int .i64 (z:Int),.int .i64 xk,.int .i64 xt,.bool xm,.int .u64 (xn:Int)]:=((Bx.new w1 55 _).alloc _).grown hg1 (zqr hownw);have hB2:=zaw (hb1.alloc hz1 (.cells #[.int .i64 xa,.int .i64 (z:Int),.int .i64 xk,.int .i64 xt,.bool xm,.int .u64 (xn:Int)] 55)) (by simp;omega) (hownw.alloc _) hg1;have hc1:w2.cell? ⟨w1.heap.size,1,none⟩=some (.int .i64 (z:Int)):=hbx.cell 1;have hf1:=hbx.frozen 1;have hl1:=hbx.lt;clear hg1 hbx)
           go_roundw
           case rel=>exact ⟨i+z,acc++[⟨xa,(z:Int),xk,xt,xm,xn⟩],by rw[Int.natCast_add],by omega,by omega,by have:=HQ3.out;have:=HZ2.out;omega,HNX.out,by simp;omega,by rw[HFL.out,List.length_append];exact hown1,hB2⟩
           case measure=>simp[intOf];omega
       · have hi:i=ws.length:=by omega
         have HD:=hid (zci HS.out HAR.out (l:=acc) (by rw[Int.toNat_natCast,HQ4.out,zaq (by omega)];simp))
         clear hi q3
         go_wp2_with fail
         go_ret2
         exact ⟨zBx HD.out.1 HD.out.2 hown,hB⟩
   · have HE:=hid (zhw HS.out (znm hbad))
     go_enter Tryz.func65,Tryz.ntmps65
     go_wp2_with fail
     refine (zay A ws.length c w (by omega)).mono ?_
     rintro e w1 ⟨rfl,rfl⟩
     rw[HI.out]
     by_cases h1:a<128
     · clear hbad
       go_wp2_with fail
       go_ret2
       exact ⟨zkb HE.out (by omega),Below.refl _ _⟩
     · by_cases h2:(ws.length:Int)<a
       · clear hbad
         go_wp2_with fail
         go_ret2
         exact ⟨zkb HE.out (by omega),Below.refl _ _⟩
       · have hev:(a % 2 != 0)=true:=by rw[bne_iff_ne];omega
         have d1:decide (a<128)=false:=by rw[decide_eq_false_iff_not];omega
         have d2:decide ((ws.length:Int)<a)=false:=by rw[decide_eq_false_iff_not];omega
         have a0:0≤a:=by omega
         clear hbad
         go_wp2_with fail
         go_ret2
         exact ⟨zkb HE.out (by omega),Below.refl _ _⟩
end Go.Proofs.YtpcajamacpbjcaaGreat
namespace Go.Proofs.YtpcajamacpbjcaaGreat
open Lib (hid)
def zHt:List Bk→Option Bk
 | []=>none
 | b :: l=>if b.mark=true then some b else zHt l
def zeq (l:List Bk) (k:Nat):Prop:=∀ j,j<k→(gk l j).mark=false
theorem zmy (l:List Bk):zeq l 0:=fun j h=>absurd h (by omega)
theorem zmo {l:List Bk} {k:Nat} (h:zeq l k) (h2:(gk l k).mark=false):zeq l (k+1):=fun j hj=>by
 rcases Nat.lt_or_ge j k with h3|h3
 · exact h j h3
 · have:j=k:=by omega
   subst this;exact h2
theorem zDo:∀ {l:List Bk},zeq l l.length→zHt l=none:=by
 intro l
 induction l with
 | nil=>intro _;rfl
 | cons b l ih =>
  intro h
  have h0:b.mark=false:=h 0 (by simp)
  simp only[zHt,h0,Bool.false_eq_true,if_false]
  exact ih fun j hj=>by have:=h (j+1) (by simpa using hj);rwa [zhk] at this
theorem zKw:∀ {l:List Bk} {k:Nat},k<l.length→zeq l k→(gk l k).mark=true→zHt l=some (gk l k):=by
 intro l
 induction l with
 | nil=>intro k h;simp at h
 | cons b l ih =>
  intro k hk h hm
  cases k with
  | zero =>
   rw[zmn] at hm ⊢
   simp[zHt,hm]
  | succ k =>
   have h0:b.mark=false:=h 0 (by omega)
   simp only[zHt,h0,Bool.false_eq_true,if_false]
   rw[zhk] at hm ⊢
   exact ih (by simpa using hk) (fun j hj=>by have:=h (j+1) (by omega);rwa [zhk] at this) hm
def zbj (ws:List Nat) (a:Int):Int:=if zca ws a=0 then (match zHt (za5 ws a) with | none=>6 | some _=>0) else zca ws a
def zhm (ws:List Nat) (a:Int):Bk:=if zca ws a=0 then (zHt (za5 ws a)).getD zlv else zlv
theorem zvz {ws:List Nat} {a r:Int} (h:zca ws a=r) (h0:r≠0):zhm ws a=zlv∧zbj ws a=r:=by
 subst h
 simp[zhm,zbj,h0]
theorem zDr {ws:List Nat} {a:Int} (h:zca ws a=0) {l:List Bk} (hl:za5 ws a=l) (hn:zeq l l.length):zhm ws a=zlv∧zbj ws a=6:=by
 subst hl
 simp[zhm,zbj,h,zDo hn]
theorem zta {ws:List Nat} {a:Int} (h:zca ws a=0) {l:List Bk} (hl:za5 ws a=l) {k:Nat} (hk:k<l.length) (hn:zeq l k) (hm:(gk l k).mark=true):zhm ws a=gk l k∧zbj ws a=0:=by
 subst hl
 simp[zhm,zbj,h,zKw hk hn hm]
theorem zKs {ws:List Nat} {a:Int} (h:zca ws a=0) {k:Nat} (hk:k<(za5 ws a).length):(gk (za5 ws a) k).kind == 1 || !(gk (za5 ws a) k).mark:=by
 unfold za5 at hk ⊢
 rw[if_pos h] at hk ⊢
 unfold zca at h
 split at h
 · split at h
   · simp at h
   · rename_i h2
     have h3:=zl0 (by simpa using h2)
     cases hb:blocks ws a.toNat with
     | none=>rw[hb] at h;simp at h
     | some l =>
      rw[hb] at hk
      simp only[Option.getD_some] at hk ⊢
      obtain ⟨i,e,-,-,-,b4,-⟩:=zb5 _ _ hb (by omega) k hk
      have h7:=(zbo _).1 (ze4 b4)
      rw[zbt l k hk,e]
      show ((zaf (wd ws i)).kind == 1 || !(zaf (wd ws i)).mark)=true
      rcases h7.2 with h8|h8
      · simp[h8.1]
      · simp[h8.2.2.1]
 · simp at h
theorem zpj (a:Int):(a.tmod 2 != 0)=(a % 2 != 0):=by
 have h1:a.tmod 2=0↔a % 2=0:=by
  constructor
  · intro h
    have:=Int.dvd_of_tmod_eq_zero h
    omega
  · intro h
    exact Int.tmod_eq_zero_of_dvd (Int.dvd_of_emod_eq_zero h)
 rw[Bool.eq_iff_iff,bne_iff_ne,bne_iff_ne,ne_eq,ne_eq,h1]
theorem zEm {n:Nat} {a:Int} (hbad:¬ (128≤a∧a≤(n:Int)∧a % 2=0)):(a % 2 != 0)=true∧(a.tmod 2 != 0)=true∨((a % 2 != 0)=false∧(a.tmod 2 != 0)=false)∧a<128∨(a % 2 != 0)=false∧128≤a∧(n:Int)<a:=by
 rw[zpj]
 by_cases h:a % 2=0
 · have:(a % 2 != 0)=false:=by rw[bne_eq_false_iff_eq];exact h
   rw[this]
   by_cases h2:a<128
   · exact .inr (.inl ⟨⟨rfl,rfl⟩,h2⟩)
   · exact .inr (.inr ⟨rfl,by omega,by omega⟩)
 · have:(a % 2 != 0)=true:=by rw[bne_iff_ne];exact h
   rw[this];exact .inl ⟨rfl,rfl⟩
theorem zgx (ws:List Nat) (a:Int):(za5 ws a).length≤4611686018427387904:=by
 unfold za5
 split
 · rename_i h
   unfold zca at h
   split at h
   · rename_i h1
     have hb:=(zad _).1 h1
     split at h
     · simp at h
     · rename_i h2
       have h3:=zl0 (by simpa using h2)
       cases hbl:blocks ws a.toNat with
       | none=>simp
       | some l =>
        have:=(zbs (by omega) _ _ hbl (by omega) (by omega) (by omega)).1
        simp only[Option.getD_some];omega
   · simp at h
 · simp
end Go.Proofs.YtpcajamacpbjcaaGreat
