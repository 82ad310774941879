/- Texts laid together: Arr Agg App Cut Img SumW FwbQ HdrW HdrX HdrY Walk From NxtP. -/
import Derived.Test.YtpcajamacpbjcaaGreatZKPlain
import Derived.Deep.MidRow
import Derived.Laws.Rows
import Derived.Laws.AppendOwnNone
import Derived.Laws.BitsAllLaws
import Derived.Laws.Shifts
import Derived.PlainAid
import Derived.Deep.RegionHeld3
import Derived.Deep.DrawnRows
set_option maxHeartbeats 16000000
set_option maxRecDepth 100000
set_option linter.all false
namespace Go.Proofs.YtpcajamacpbjcaaGreat
open Lib (hid)
open Go.RowKit
variable {ops:Array Oper}{b:Bk}{xm:Bool}{a r xa xk xt:Int}{l:List Bk}{ws xs:List Nat}{rest:List Oper}{B H g g' i k m n x xn:Nat}{o op:Oper}{dst:Option Tmp}{P:Program}{pos:String}{α:Type}{e t type:TypeId}{v:Value}{w w' w0:World}
open Go.Proofs.Tryz
theorem rO{cs:Array Value}(h:Bx w g t cs)(hv:cs[i]? = some v):w.setCell ⟨g,i,none⟩ v=w:=by
 have d:w.heap.modify g (fun | .cells c b a=>.cells (if (none:Option Nat).isSome then c else c.setIfInBounds i v) b a | o=>o)=w.heap:=by
  apply kk0;intro j;rw[Array.getElem?_modify];split
  .rename_i e;subst e;rw[show w.heap[g]? = _ from h];simp only[kzy,kj0,kzh,if_false];congr 2;apply kk0;intro k;rw[kx6];split
   .rename_i e;subst e;split
    .exact hv.symm
    rename_i hk;rw[kje (by omega)]
   rfl
  rfl
 have e:w.setCell ⟨g,i,none⟩ v={ w with heap:=w.heap.modify g (fun | .cells c b a=>.cells (if (none:Option Nat).isSome then c else c.setIfInBounds i v) b a | o=>o) }:=rfl;rw[e,d]
theorem qd{cs:Array Value}(h:Bx w g t cs):w.setCells g 0 cs.toList=w:=by
 have b:∀(vs:List Value) (o:Nat),(∀j v,vs[j]? = some v->cs[o+j]? = some v)->w.setCells g o vs=w:=by
  intro vs
  induction vs with
  | nil=>intro o _;rfl
  | cons v vs ih =>intro o a;simp only[World.setCells];rw[rO h (by have:=a 0 v rfl;simpa using this)];exact ih (o+1) (λj u c=>by have:=a (j+1) u (by simpa using c);rwa [show o+1+j=o+(j+1) by omega])
 exact b cs.toList 0 (λj v a=>by simpa using a)
theorem fF{a:Array Value}(h:Bx w g t a){cs:Array Value}(hs:cs.size=a.size):Bx (w.setCells g 0 cs.toList) g t cs:=by
 have f:∀(vs:List Value) (o:Nat) (w:World) (a:Array Value),Bx w g t a->o+vs.length=a.size ->
  ∃b,Bx (w.setCells g o vs) g t b/\b.size=a.size/\(∀j,j<o->b[j]? = a[j]?)/\∀j,j<vs.length->b[o+j]? = vs[j]?:=by
  intro vs
  induction vs with
  | nil=>intro o w a d _;exact⟨a,d,rfl,λ_ _=>rfl,λj c=>by simp at c⟩
  | cons v vs ih =>
   intro o w a d q;rw[kq0] at q;obtain⟨b,m,k,n,l⟩:=ih (o+1) _ _ (d.set_ o v) (by rw[kkx];omega);rw[kkx] at k;refine⟨b,m,k,λj c=>?_,λj c=>?_⟩
   .rw[n j (by omega),kx6,if_neg (by omega)]
   cases j with
   | zero=>rw[kz8,n o (by omega),kx6,if_pos rfl,if_pos (by omega)];rfl
   | succ j=>rw[show o+(j+1)=o+1+j by omega,l j (by simpa using c)];simp
 obtain⟨b,m,k,_,l⟩:=f cs.toList 0 w a h (by simpa using hs);have e:b=cs:=by
  apply kk0;intro i;by_cases p:i<cs.size
  .have:=l i (by simpa using p);rw[kxd] at this;rw[this];simp
  rw[kje (by omega),kje (by omega)]
 rwa [e] at m
theorem a9(hg:B<=g)(vs:List Value):∀ {w a:World} {o:Nat},Below B w a->Below B w (a.setCells g o vs):=by
 induction vs with
 | nil=>intro w a o h;exact h
 | cons v vs ih=>intro w a o h;exact ih (h.setCell (p:=⟨g,o,none⟩) hg v)
theorem jK{cs:Array Value}(h:Bx w g t cs):w.there g 0 cs.size:=λj a=>by rw[kxd];exact⟨by rw[h.cell j];simp[a],h.frozen j⟩
theorem qc{i:TypeInfo}(ht:P.underlying t=some (.array n e))(he:P.info? e=some i)(hs:i.size=1)(hag:∀w,(isAgg e).run P w=.ok false w){cs:Array Value}(hk:k<n)(hv:cs[k]? = some v)(w:World):
 (Instr.index t (.agg cs) (.int .i64 (k:Int))).run P w=.ok v w:=by
 have a:(0:Int)<=(k:Int)/\(k:Int)<(n:Int):=by omega
 simp[Instr.index,asIntOf,run_underlying ht,a,sizeOf,typeInfo,he,hs,part,Sem.run_bind,hag,hv,Result.andThen];omega
theorem dD(hne:g'≠g)(vs:List Value):∀(w:World) (o:Nat),(w.setCells g o vs).heap[g']? = w.heap[g']?:=by
 induction vs with
 | nil=>intro w o;rfl
 | cons v vs ih=>intro w o;simp only[World.setCells];rw[ih];exact kkz w ⟨g,o,none⟩ v g' hne
theorem cY(vs:List Value):∀(w:World) (o:Nat),(w.setCells g o vs).heap.size=w.heap.size:=by
 induction vs with
 | nil=>intro w o;rfl
 | cons v vs ih=>intro w o;simp only[World.setCells];rw[ih,kz6]
def iD (w w':World) (g:Nat):Prop:=w'.heap.size=w.heap.size/\(∀g',g'≠g->w'.heap[g']? = w.heap[g']?)/\∀B,B<=g->Below B w w'
theorem iD.bx{cs:Array Value}(h:iD w w' g)(hb:Bx w g' t cs)(hne:g'≠g):Bx w' g' t cs:=(h.2.1 g' hne).trans hb
theorem iD.below(h:iD w w' g)(hb:Below B w0 w)(hB:B<=g):Below B w0 w':=hb.trans (h.2.2 B hB)
theorem am{a:Act}{Q:Exit->Act->World->Prop}(hgd:op.guard=none)(ty:TypeId)(x y:Operand)(ho:op.op=.store ty x y)(g:Nat)(t:TypeId)(cs0 cs:Array Value)(hx:a.eval x=.pointer (some ⟨g,0,none⟩))(hy:a.eval y=.agg cs)(hb:Bx w g t cs0)(hs:cs.size=cs0.size)(hi:(P.info? ty).map (·.size)=some cs.size)(h1:cs.all (·.oneCell')=true)(h:∀W',Bx W' g t cs->iD w W' g->wpList P ops Q rest (a.put op.dst undef) W'):wpList P ops Q (op::rest) a w:=by
 have b:w.there g 0 cs.size:=by rw[hs];exact jK hb
 refine kjt hgd ty x y ho g 0 cs hx hy b hi h1 (h _ (fF hb hs) ⟨cY _ _ _,λg' c=>dD c _ _ _,λB d=>a9 d _ (kqk _ _)⟩)
theorem ar{a:Act}{Q:Exit->Act->World->Prop}{after:Array Edge}{guard:Option (Nat × Bool)}(ty:TypeId)(x y:Operand)(h:wpList P ops Q ({ dst:=dst,op:=.store ty x y,type:=type,pos:=pos,after:=after,guard:=guard }::rest) a w):wpList P ops Q ({ dst:=dst,op:=.store ty x y,type:=type,pos:=pos,after:=after,guard:=guard }::rest) a w:=h
theorem aN{a:Act}{Q:Exit->Act->World->Prop}{after:Array Edge}{guard:Option (Nat × Bool)}(ty:TypeId)(x:Operand)(h:wpList P ops Q ({ dst:=dst,op:=.load ty x,type:=type,pos:=pos,after:=after,guard:=guard }::rest) a w):wpList P ops Q ({ dst:=dst,op:=.load ty x,type:=type,pos:=pos,after:=after,guard:=guard }::rest) a w:=h
theorem sD{a:Act}{Q:Exit->Act->World->Prop}(hgd:op.guard=none)(v:Value)(hv:(execOp a.eval op).run P w=.ok (.value v) w)(h:wpList P ops Q rest (a.put op.dst v) w):wpList P ops Q (op::rest) a w:=
 wpList_plain hgd λ_ b=>by
  unfold Oper.wp
  rw[hv]
  exact b _ _ h
theorem qg(x0 x1 x2 x3:Int)(m:Bool)(n:Int):(#[.int .i64 x0,.int .i64 x1,.int .i64 x2,.int .i64 x3,.bool m,.int .u64 n]:Array Value).all (·.oneCell')=true:=by simp[Value.oneCell']
theorem rg:(prog.info? 55).map (·.size)=some 6:=by kernel_rfl
theorem yY(w:World){a:Act}{Q:Exit->Act->World->Prop}(hgd:o.guard=none)(s x:Operand)(t:TypeId)(ho:o.op=.call { callee:=.builtin .append,args:=#[s,x],argTypes:=#[t,t] })(base:Nat)(e:TypeId)(i:TypeInfo)(z:Value)(size bytes:Nat)(ht:P.underlying t=some (.slice e))(hi:P.info? e=some i)(hz:i.zero=some z)(hsize:i.size=size)(hby:i.bytes=bytes)(hzs:z.cells.size=size)(hsz:0<size)(v:Value)(n:Nat)(xs:List Value)(hs:a.eval s=v)(hown:w.ownsRow base e size v n xs)(B:Nat)(A:Option Addr)(m c:Nat)(news:List Value)(hx:a.eval x=.slice A m c)(hc0:A=none->c=0)(hl:news.length=m*size)(hr:Rd w B A news)(f:∀u∈news,u.oneCell'=true)(h63:n+m<=maxLen)(hbytes:(n+m)*bytes<=140737488355328)(hbase:base<=w.heap.size)(h:∀d w',w'.ownsRow base e size d (n+m) (xs++news)->w.grownBy w' v.ownBlock->wpList P ops Q rest (a.put o.dst d) w'):wpList P ops Q (o::rest) a w:=by
 cases A with
 | none =>
  have E:news=[]:=by
   cases news with
   | nil=>rfl
   | cons u us =>obtain⟨b,k,f,_⟩:=hr (by simp);cases f
  subst E;have y:m=0:=by
   rcases kx7 m with g|g
   .exact g
   have:=Nat.mul_pos g hsz;simp at hl;omega
  subst y;rw[hc0 rfl] at hx;exact wpList_append_own_none hgd s x t ho base e i size ht hi v n xs hs hown hx (h v w (by simpa using hown) (World.grownBy.refl w _))
 | some ad =>
  refine kze w hgd s x t ho base e i z size bytes ht hi hz hsize hby hzs hsz v n xs hs hown ad m c news hx hl ?_ f h63 hbytes hbase (λd w' F C _=>h d w' F C);intro j u p;have l:news≠[]:=by intro e;subst e;simp at p
  obtain⟨b,k,e,_,D⟩:=hr l;cases e;obtain⟨q,r⟩:=kzb.1 p;have:=D j q;rw[r] at this;rw[<-this];congr 1;unfold Addr.add;split
  .simp_all
  rfl
theorem il(w:World)(base:Nat)(e:TypeId)(size:Nat)(hb:base<=w.heap.size):(w.alloc (.cells #[] e)).ownsRow base e size (.slice (some ⟨w.heap.size,0,none⟩) 0 0) 0 []:=by refine⟨by simp,.inr ⟨w.heap.size,0,#[],rfl,hb,heap_alloc_new w _,kqa _,by simp[maxLen],by simp,by simp⟩⟩
theorem dP{f:α->List Value}(h:∀x,∀u∈f x,u.oneCell'=true)(l:List α):∀u∈l.flatMap f,u.oneCell'=true:=by intro u b;obtain⟨x,_,a⟩:=kvg.1 b;exact h x u a
theorem Bk.one(b:Bk):∀u∈b.cells,u.oneCell'=true:=by intro u a;simp only[Bk.cells,kqx,kzf,or_false] at a;rcases a with rfl|rfl|rfl|rfl|rfl|rfl<;>rfl
theorem En.one(b:En):∀u∈b.cells,u.oneCell'=true:=by intro u a;simp only[En.cells,kqx,kzf,or_false] at a;rcases a with rfl|rfl<;>rfl
theorem qI(b:Nat):∀u∈ag b,u.oneCell'=true:=by intro u a;simp only[ag,kqx,kzf,or_false] at a;subst a;rfl
theorem eI(f:α->List Value)(sz:Nat)(hf:∀x,(f x).length=sz)(l:List α)(k j:Nat)(hj:j<sz)(x:α)(u:Value)(hk:∀y,l[k]? = some y->f x=(f y).set j u):
 (l.set k x).flatMap f=(l.flatMap f).set (k*sz+j) u:=by
 induction l generalizing k with
 | nil=>simp
 | cons y l ih =>
  cases k with
  | zero =>have:=hk y rfl;simp only[kqg,kzx,this,kvu,kxd];rw[List.set_append_left _ _ (by rw[hf];exact hj)]
  | succ k =>simp only[kqf,kzx];rw[ih k (λz a=>hk z (by simpa using a)),kvd _ _ (by rw[hf,kjg];omega),hf];congr 2;rw[kjg];omega
theorem iA(f:α->List Value)(sz:Nat)(hf:∀x,(f x).length=sz)(l:List α)(n:Nat):(l.take n).flatMap f=(l.flatMap f).take (n*sz):=by
 induction l generalizing n with
 | nil=>simp
 | cons x l ih =>
  cases n with
  | zero=>simp
  | succ n =>rw[kxo,kzx,kzx,ih,List.take_append,hf];rw[kq5 (l:=f x) (by rw[hf,kjg];omega)];congr 2;rw[kjg];omega
theorem r9(f:α->List Value)(sz:Nat)(hf:∀x,(f x).length=sz)(l:List α)(n:Nat):(l.drop n).flatMap f=(l.flatMap f).drop (n*sz):=by
 induction l generalizing n with
 | nil=>simp
 | cons x l ih =>
  cases n with
  | zero=>simp
  | succ n =>rw[List.drop_succ_cons,kzx,ih,kvh,hf];rw[kjf (l:=f x) (by rw[hf,kjg];omega),kz1];congr 1;rw[kjg];omega
theorem oz(w:World)(base:Nat)(t ty e:TypeId)(i:TypeInfo)(size:Nat)(ht:P.underlying t=some (.slice e))(hi:P.info? e=some i)(v:Value)(n:Nat)(xs:List Value)(hown:w.ownsRow base e size v n xs)(c:Nat):(Builtin.append_ #[t,t] ty #[v,.slice none 0 c]).run P w=.ok v w:=by
 rcases hown.2 with⟨rfl,rfl⟩|⟨g,cap,cur,rfl,_,_,a,_⟩
 .simp[Builtin.append_,run_underlying ht,sizeOf,typeInfo,hi,Builtin.lenOf,Builtin.firstCells]
 simp[Builtin.append_,run_underlying ht,sizeOf,typeInfo,hi,Builtin.lenOf,Builtin.firstCells,a,storeCells]
theorem ma(w:World){a:Act}{K:Act->World->Prop}{Q:Exit->Act->World->Prop}(s x:Operand)(t:TypeId)(ho:o.op=.call { callee:=.builtin .append,args:=#[s,x],argTypes:=#[t,t] })(base:Nat)(e:TypeId)(i:TypeInfo)(z:Value)(size bytes:Nat)(ht:P.underlying t=some (.slice e))(hi:P.info? e=some i)(hz:i.zero=some z)(hsize:i.size=size)(hby:i.bytes=bytes)(hzs:z.cells.size=size)(hsz:0<size)(v:Value)(n:Nat)(xs:List Value)(hs:a.eval s=v)(hown:w.ownsRow base e size v n xs)(B:Nat)(A:Option Addr)(m c:Nat)(news:List Value)(hx:a.eval x=.slice A m c)(hl:news.length=m*size)(hr:Rd w B A news)(g:∀u∈news,u.oneCell'=true)(h63:n+m<=maxLen)(hbytes:(n+m)*bytes<=140737488355328)(hbase:base<=w.heap.size)(h:∀f w',w'.ownsRow base e size f (n+m) (xs++news)->w.grownBy w' v.ownBlock->K (a.put o.dst f) w'):o.wp P a w K Q:=by
 cases A with
 | none =>
  have F:news=[]:=by
   cases news with
   | nil=>rfl
   | cons u us =>obtain⟨b,l,g,_⟩:=hr (by simp);cases g
  subst F;have C:m=0:=by
   rcases kx7 m with k|k
   .exact k
   have:=Nat.mul_pos k hsz;simp at hl;omega
  subst C;have h:=h v w (by simpa using hown) (World.grownBy.refl w _);have d:=oz (P:=P) w base t o.type e i size ht hi v n xs hown c;unfold Oper.wp;simp[execOp,ho,resolve,invoke,builtin,hs,hx,d,Result.andThen];exact h
 | some ad =>
  refine wp_append_own w s x t ho base e i z size bytes ht hi hz hsize hby hzs hsz v n xs hs hown ad m c news hx hl ?_ g h63 hbytes hbase (λf w' G D _=>h f w' G D);intro j u q;have p:news≠[]:=by intro e;subst e;simp at q
  obtain⟨b,l,e,_,E⟩:=hr p;cases e;obtain⟨r,y⟩:=kzb.1 q;have:=E j r;rw[y] at this;rw[<-this];congr 1;unfold Addr.add;split
  .simp_all
  rfl
theorem bJ(w:World){a:Act}{Q:Exit->Act->World->Prop}(hgd:Region.wanted o (yielded ops a.tmps)=true)(s x:Operand)(t:TypeId)(ho:o.op=.call { callee:=.builtin .append,args:=#[s,x],argTypes:=#[t,t] })(base:Nat)(e:TypeId)(i:TypeInfo)(z:Value)(size bytes:Nat)(ht:P.underlying t=some (.slice e))(hi:P.info? e=some i)(hz:i.zero=some z)(hsize:i.size=size)(hby:i.bytes=bytes)(hzs:z.cells.size=size)(hsz:0<size)(v:Value)(n:Nat)(xs:List Value)(hs:a.eval s=v)(hown:w.ownsRow base e size v n xs)(B:Nat)(A:Option Addr)(m c:Nat)(news:List Value)(hx:a.eval x=.slice A m c)(hl:news.length=m*size)(hr:Rd w B A news)(h1:∀u∈news,u.oneCell'=true)(h63:n+m<=maxLen)(hbytes:(n+m)*bytes<=140737488355328)(hbase:base<=w.heap.size)(h:∀b w',w'.ownsRow base e size b (n+m) (xs++news)->w.grownBy w' v.ownBlock->wpList P ops Q rest (a.put o.dst b) w'):wpList P ops Q (o::rest) a w:=
 wpList_step λ_ d=>by
  rw[if_pos hgd]
  exact ma w s x t ho base e i z size bytes ht hi hz hsize hby hzs hsz v n xs hs hown B A m c news hx hl hr h1 h63 hbytes hbase λb w' f g=>d _ _ (h b w' f g)
theorem jj{a b:Bool}(h:a=b):Ending.returned (.bool a)=.returned (.bool b):=by rw[h]
theorem mK{b:Int}(h:a=b):Ending.returned (.int .i64 a)=.returned (.int .i64 b):=by rw[h]
def aj (w:Int):Bool:=decide (256<=w)&&(decide (w<=2048)&&w%8==0)
theorem aa(w:Int):aj w=true↔256<=w/\w<=2048/\w%8=0:=by simp[aj]
def ls (n:Nat):Int:=if aj (n:Int)=true then 0 else 8
theorem aZ(h:aj (n:Int)=true):ls n=0:=by simp[ls,h]
theorem bI(h:aj (n:Int)=false):ls n=8:=by simp[ls,h]
theorem kh(h:ls n=0):256<=n/\n<=2048/\n%8=0:=by
 cases a:aj (n:Int) with
 | false=>rw[bI a] at h;cases h
 | true=>have:=(aa _).1 a;omega
theorem DI(n:Nat)(w:World)(hn:n<=9223372036854775807):Calls prog 135 #[.int .i64 (n:Int)] w λe w'=>e=.returned (.bool (aj (n:Int)))/\w=w':=by
 have H:Hid (∀b:Bool,(b=true↔256<=n/\n<=2048/\n%8=0)->b=aj (n:Int)):=hid λb h=>by rw[kzg,aa,h];omega
 go_enter func135,ntmps135;go_wp2_with fail
 all_goals
  go_ret;exact⟨jj (H.out _ (by simp;omega)),rfl⟩
theorem aG(A:Option Addr)(n c:Nat)(w:World)(hn:n<=9223372036854775807):Calls prog 87 #[.slice A n c] w λe w'=>e=.returned (.int .i64 (ls n))/\w=w':=by
 cases a:aj (n:Int)
 all_goals
  first
   | have b:=hid (aZ a)
   | have b:=hid (bI a)
  have d:=hid a;clear a;go_enter func87,ntmps87;go_wp2_with fail;refine (DI n w hn).mono ?_;rintro e w1 ⟨rfl,rfl⟩;rw[d.out];go_wp2;go_ret;exact⟨by rw[b.out];rfl,rfl⟩
def pI (n:Nat):Bool:=(decide (400<n)&&decide (n<2040))||decide (2060<n)
theorem greatW_no(h:pI n=false):n<=400\/2040<=n/\n<=2060:=by simp only[pI,kzn,kki,kqc] at h;omega
theorem By(A:Option Addr)(n c:Nat)(w:World)(hm:n<=9223372036854775807):
 Calls prog 12 #[.slice A n c] w λe w'=>e=.returned (.bool (pI n))/\w=w':=by
 have H:Hid (∀b:Bool,(b=true↔(400<n/\n<2040)\/2060<n)->b=pI n):=hid λb h=>by rw[kzg,h];simp[pI]
 go_enter func12,ntmps12;go_wp2_with fail
 all_goals
  go_ret;exact⟨jj (H.out _ (by simp;omega)),rfl⟩
def ce (w k:Nat):Array Value:=((List.range 8).map λi=>Value.int .u8 (if i<k then ((ja w i:Nat):Int) else 0)).toArray
theorem bA(w k:Nat):(ce w k).size=8:=by simp[ce]
theorem eM(w k i:Nat)(h:i<8):(ce w k)[i]? = some (.int .u8 (if i<k then ((ja w i:Nat):Int) else 0)):=by simp[ce,h]
theorem nr(w k:Nat)(hk:k<8):(ce w k).setIfInBounds k (.int .u8 (ja w k:Nat))=ce w (k+1):=by
 apply kk0;intro i;rw[kx6];by_cases h:i<8
 .rw[eM _ _ _ h,eM _ _ _ h];by_cases e:k=i
  .subst e;rw[if_pos rfl,if_pos (by rw[bA];exact h),if_pos (by omega)]
  rw[if_neg e];by_cases a:i<k
  .rw[if_pos a,if_pos (by omega)]
  rw[if_neg a,if_neg (by omega)]
 rw[if_neg (by omega),kje (by rw[bA];omega),kje (by rw[bA];omega)]
def ir:Array Value:=Array.replicate 8 (.int .u8 0)
theorem vm(w:Nat):ir=ce w 0:=by simp[ir,ce];rfl
theorem xZ(w k:Nat):(w:Int)/2 ^ (8*k)%256=((ja w k:Nat):Int):=by rw[ja,show (256:Nat) ^ k=2 ^ (8*k) by rw[Nat.pow_mul]];rfl
theorem GK:(prog.info? 308).map (·.size)=some 8:=by kernel_rfl
theorem kO:(prog.info? 5).map (λi=>(i.zero,i.size,i.bytes))=some (some (.int .u8 0),1,1):=by kernel_rfl
theorem Hz(w:World):(isAgg 5).run prog w=.ok false w:=by kernel_rfl
theorem kp(x k:Nat):(ce x k).all (·.oneCell')=true:=by rw[kk8];intro i a;rw[bA] at a;have h:=eM x k i a;rw[kjl (by rw[bA];exact a)] at h;injection h with h;rw[h];rfl
theorem za(w:World):(zeroValue 308).run prog w=.ok (.agg ir) w:=by kernel_rfl
theorem Hk(x:Nat)(w:World)(hx:x<18446744073709551616):
 Calls prog 288 #[.int .u64 (x:Int)] w λe w'=>e=.returned (.agg (ce x 8))/\Below w.heap.size w w':=by
 have hzv:=za;have hx0:(0:Int)<=(x:Int):=by omega
 clear hx;go_enter func288,ntmps288;go_wp2_with fail;go_loopw [4,5] (λi' i wr=>∃k:Nat,k<=8/\i=.int .i64 k/\Bx wr w.heap.size 308 ir/\Bx wr (w.heap.size+1) 308 (ce x k)/\Below w.heap.size w wr) (λ_ i _=>8-(intOf i).toNat)
 case atStart =>
  refine⟨0,kqy _,rfl,(Bx.new w _ _).alloc _,?_,((kqk _ _).alloc (kqa _) _).alloc (by simp) _⟩;have:=Bx.new (w.alloc (.cells ir 308)) 308 ir;rw[kqm] at this;rw[<-vm];exact this
 obtain⟨k,hk,rfl,j,d,n⟩:=hrel;have hz:=n.size;by_cases g:k<8
 .have s:=d.cell k;rw[eM _ _ _ g] at s;have hf:=d.frozen k;have a:=hid d;have q:=hid j;have ik0:(0:Int)<=(k:Int):=by omega
  have ik1:(k:Int)<8:=by omega
  clear j d;go_wp2_with fail;rw[xZ];refine⟨⟨k+1,by omega,by go_num,q.out.far (p:=⟨w.heap.size+1,k,none⟩) (by dsimp only;omega) _,?_,n.setCell (p:=⟨w.heap.size+1,k,none⟩) (by dsimp only;omega) _⟩,by simp[intOf];omega⟩;rw[<-nr x k g];exact a.out.set_ k _
 obtain rfl:k=8:=by omega
 have m:(prog.info? 308).map (·.size)=some (ce x 8).size:=by rw[bA];exact GK
 have f:=kp x 8;have c:=jK j;rw[show ir.size=(ce x 8).size by rw[bA];simp[ir]] at c;have h:=hid (fF j (cs:=ce x 8) (by rw[bA];simp[ir]));have a:=hid d;have l:=hid (a9 (kqa _) (ce x 8).toList (o:=0) n);clear j d;obtain⟨cs,b⟩:=xq (ce x 8);have r:=hid b;rw[b] at m f c h a l;clear b;go_wp2_with (first
  | (refine kxh rfl _ _ rfl (w.heap.size+1) (by rfl) 308 cs (0,0) _ a.out underlying308 (by rfl) m ?_)
  | (refine kjt rfl _ _ _ rfl w.heap.size 0 cs (by rfl) (by rfl) c m f ?_))
 exact kqo (v:=.agg cs) (results_cell_row rfl _ _ w.heap.size _ cs (0,0) _ (by rfl) h.out underlying308 (by rfl) m) rfl ⟨by rw[r.out],l.out⟩
theorem mr(n:Nat):IntKind.u64.wrap (n:Int)=((n%18446744073709551616:Nat):Int):=by simp[IntKind.wrap,IntKind.bits,IntKind.signed]
theorem zZ(s:Nat)(A:Option Addr)(l:List Nat)(c n:Nat)(w:World)(hn:l.length=n)(hm:n<=2048)(hs:s<18446744073709551616)(hr:RdW w w.heap.size A l)(ho:∀x∈l,x<18446744073709551616):
 Calls prog 264 #[.int .u64 (s:Int),.slice A n c] w λe w'=>e=.returned (.tuple #[.int .u64 (aY s l:Nat),.int .i64 0])/\Below w.heap.size w w':=by
 subst hn;have V:=hid hr;have T:=hid ho;have W:=hid hs;clear hr ho hs;obtain⟨i0,M,m,o,r⟩:=kzw kO;have S:=hid M;have HZ0:=hid m;have F:=hid o;have HZ2:=hid r;clear M m o r;go_enter func264,ntmps264;go_wp2_with fail;go_loopw [0,15] (λC i wr=>∃k:Nat,k<=l.length/\i=.int .i64 k/\C=.int .u64 (aY s (l.take k):Nat)/\Below w.heap.size w wr) (λ_ i _=>l.length-(intOf i).toNat)
 case atStart=>exact⟨0,kqy _,rfl,rfl,kqk _ _⟩
 obtain⟨k,hk,rfl,rfl,z⟩:=hrel;have U:=z.size;by_cases d:k<l.length
 .obtain ⟨b,H,rfl,R,E⟩:=RdW.at_ V.out d;replace E:=(z.cell (p:=⟨b,H+k,none⟩) R).trans E;have N:=hid (T.out l[k] (kqq d));have G:=hid (mw d s);obtain⟨x,J⟩:=xq (l[k]);rw[J] at E N G;have L:=hid (iE W.out (l.take k));obtain⟨q,K⟩:=xq (aY s (l.take k));rw[K] at G L |-;clear J K;have ik1:(0:Int)<=(k:Int):=by omega
  have ik2:(k:Int)<(l.length:Int):=by omega
  go_wp2_with fail;refine (Hk x _ N.out).mono ?_;rintro e w1 ⟨rfl,D⟩;have B:=z.trans (D.mono U);go_wp2_with fail;go_loopw [0,21] (λC i wr=>∃j:Nat,j<=8/\i=.int .i64 j/\C=.int .u64 (Cg q x j:Nat)/\Below w.heap.size w wr) (λ_ i _=>8-(intOf i).toNat)
  case atStart=>exact⟨0,kqy _,rfl,rfl,B⟩
  obtain⟨j,hj,rfl,rfl,v⟩:=hrel;by_cases f:j<8
  .have a:=eM x 8 j f;rw[if_pos f] at a;have u:=qc (P:=prog) underlying308 S.out F.out Hz f a;have I:=rM x j;have h:=hid (tf L.out x j);have g:Hid (Cg q x (j+1)=Gb (Cg q x j) (ja x j)):=hid rfl;obtain⟨p,O⟩:=xq (Cg q x j);obtain⟨y,Q⟩:=xq (ja x j);rw[O] at h g |-;rw[Q] at I u g;clear O Q a;have t:=hid (u64_xor_nat p y h.out (by omega));have hxor:=t.out;go_wp2_with fail;refine⟨⟨j+1,by omega,by go_num,?_,v⟩,by simp[intOf];omega⟩;rw[g.out];unfold Gb;rw[<-mr,kk1];rfl
  obtain rfl:j=8:=by omega
  go_wp2;go_roundw
  case rel=>exact⟨k+1,by omega,by go_num,by rw[G.out];rfl,v⟩
  case measure=>simp[intOf];omega
 obtain rfl:k=l.length:=by omega
 rw[kzl];go_wp2;go_ret2;exact⟨rfl,z⟩
theorem qZ(A:Option Addr)(l:List Nat)(c n:Nat)(w:World)(hn:l.length=n)(hm:n<=2048)(hr:RdW w w.heap.size A l)(ho:∀x∈l,x<18446744073709551616):
 Calls prog 222 #[.slice A n c] w λe w'=>e=.returned (.tuple #[.int .u64 (aY 14695981039346656037 l:Nat),.int .i64 0])/\Below w.heap.size w w':=by have g:=hid hr;have f:=hid ho;have h:=hid hn;clear hr ho hn;go_enter func222,ntmps222;go_wp2_with fail;refine (zZ 14695981039346656037 A l c n w h.out hm (by omega) g.out f.out).mono ?_;rintro e w1 ⟨rfl,a⟩;obtain⟨q,b⟩:=xq (aY 14695981039346656037 l);have d:=hid b;rw[b];clear b;go_wp2;go_ret2;exact⟨by rw[d.out];rfl,a⟩
theorem xI(s:Nat):s &&& 4294967295=s%4294967296:=by rw[show (4294967295:Nat)=2 ^ 32-1 from rfl,kxx]
theorem Fx(w:World):Calls prog 224 #[.int .i64 0,.int .i64 32] w λe w'=>e=.returned (.int .u64 4294967295)/\w=w':=by go_enter func224,ntmps224;go_wp2;go_ret;exact⟨rfl,rfl⟩
theorem GV(s:Nat)(w:World)(hs:s<18446744073709551616):Calls prog 223 #[.int .u64 (s:Int),.int .i64 0,.int .i64 32] w λe w'=>e=.returned (.tuple #[.int .u64 ((s%4294967296:Nat):Int),.int .i64 0])/\w=w':=by have b:=hid (u64_and_nat s 4294967295 hs (by omega));clear hs;go_enter func223,ntmps223;go_wp2_with fail;refine (Fx w).mono ?_;rintro e w1 ⟨rfl,rfl⟩;have a:=b.out;rw[xI] at a;go_wp2;go_ret2;exact⟨by rw[<-a];rfl,rfl⟩
theorem xu(A:Option Addr)(l:List Nat)(c n:Nat)(w:World)(hn:l.length=n)(hm:n<=2048)(a:RdW w w.heap.size A l)(ho:∀x∈l,x<18446744073709551616):
 Calls prog 177 #[.slice A n c,.int .i64 32] w λe w'=>e=.returned (.tuple #[.int .u64 ((aY 14695981039346656037 l%4294967296:Nat):Int),.int .i64 0])/\Below w.heap.size w w':=by have j:=hid a;have i:=hid ho;have k:=hid hn;clear a ho hn;have h:=hid (iE (s:=14695981039346656037) (by omega) l);go_enter func177,ntmps177;go_wp2_with fail;refine (qZ A l c n w k.out hm j.out i.out).mono ?_;rintro e w1 ⟨rfl,b⟩;obtain⟨q,d⟩:=xq (aY 14695981039346656037 l);have f:=hid d;rw[d] at h |-;clear d;go_wp2_with fail;refine (GV q _ h.out).mono ?_;rintro e w2 ⟨rfl,rfl⟩;obtain⟨r,a⟩:=xq (q%4294967296);have g:=hid a;rw[a];clear a;go_wp2;go_ret2;exact⟨by rw[f.out,g.out];rfl,b⟩
theorem ft(n:Nat):um n=aj (n:Int):=by rw[kzg,aa];simp only[um,kqt,kzc,kqw];omega
def ah (ws:List Nat):Int:=if aj (ws.length:Int)=true then (match blocks ws 128 with | none=>50 | some l=>if l.all (dK ws)=true then 0 else 50) else 8
def af (ws:List Nat):List Bk:=if ah ws=0 then (blocks ws 128).getD [] else []
theorem nl(h:aj (ws.length:Int)=false):ah ws=8:=by simp[ah,h]
theorem wJ(h:aj (ws.length:Int)=true)(h2:blocks ws 128=none):ah ws=50:=by simp[ah,h,h2]
theorem ry(h:aj (ws.length:Int)=true)(h2:blocks ws 128=some l)(h3:l.all (dK ws)=false):ah ws=50:=by simp only[ah,h,h2,h3,if_true,kzh,if_false]
theorem fT(h:aj (ws.length:Int)=true)(h2:blocks ws 128=some l)(h3:l.all (dK ws)=true):ah ws=0/\af ws=l:=by
 have:ah ws=0:=by simp only[ah,h,h2,h3,if_true]
 exact⟨this,by simp[af,this,h2]⟩
theorem aA(h:ah ws=0):aj (ws.length:Int)=true/\∃l,blocks ws 128=some l/\l.all (dK ws)=true/\af ws=l:=by
 have b:=h;unfold ah at h;split at h
 .rename_i h1;refine⟨h1,?_⟩;cases a:blocks ws 128 with
  | none=>rw[a] at h;cases h
  | some l =>
   rw[a] at h;dsimp only at h;split at h
   .rename_i h2;exact⟨l,rfl,h2,by simp[af,b,a]⟩
   cases h
 cases h
theorem CX(ws:List Nat):ah ws=0\/ah ws=8\/ah ws=50:=by
 unfold ah;split
 .cases blocks ws 128 with
  | none=>simp
  | some l=>dsimp only;split<;>simp
 simp
def ic:List (Int × Int)->Int->Option Int
 | [],_=>none
 | m::l,a=>if m.1=a then some m.2 else ic l a
theorem Ik{l:List (Int × Int)}{p:Nat}(hp:p<l.length)(h:∀q (a:q<p),(l[q]'(by omega)).1≠l[p].1):ic l l[p].1=some l[p].2:=by
 induction l generalizing p with
 | nil=>simp at hp
 | cons m l ih =>
  cases p with
  | zero=>simp[ic]
  | succ p =>simp only[ic,kqd];rw[if_neg (by simpa using h 0 (by omega))];exact ih (by simpa using hp) (λq a=>by simpa using h (q+1) (by omega))
theorem yF(h:cn l=0)(s:Int)(hmn:m<=n)(hn:n<=l.length):aP (l.take m) s<=aP (l.take n) s:=by
 obtain⟨_,b⟩:=dy h
 induction n with
 | zero =>
  have:m=0:=by omega
  subst this;exact kks _
 | succ n ih =>
  rcases kq6 n m with a|a
  .have:m=n+1:=by omega
   subst this;exact kks _
  have h4:=ih a (by omega);have c:=(eH _).1 (dV b (show n<l.length by omega)).1;rw[bP l n (by omega)] at c;rw[iz (by omega)];split<;>omega
theorem ye :∀ {s:Int},aB l s=[]->aP l s=s:=by
 induction l with
 | nil=>intro s _;rfl
 | cons b l ih =>
  intro s h;simp only[aB,aP] at h |-;split at h
  .simp at h
  rename_i hb;rw[if_neg hb];exact ih h
theorem oM(s:Int)(hmn:m<=n):(aB (l.take m) s).length<=(aB (l.take n) s).length:=by
 have:l.take n=l.take m++(l.take n).drop m:=by
  conv=>lhs;rw[<-kxa m (l.take n),kkd,kxc hmn]
 rw[this,fG,kqu];omega
theorem v9(h:cn l=0){s:Int}(hs:s<=oh l):(∀p (b:p<(aB l s).length),((aB l s)[p]).2<=((aB l s)[p]).1/\ic (aB l s) ((aB l s)[p]).1=some ((aB l s)[p]).2) /\
 (∀p q (d:q<(aB l s).length) (e:p<q),((aB l s)[p]'(by omega)).2<((aB l s)[q]).2/\((aB l s)[p]'(by omega)).1<((aB l s)[q]).1)/\(∀(b:0<(aB l s).length),((aB l s)[0]).2=s):=by
 obtain⟨_,w⟩:=dy h;have f:∀p q (d:q<(aB l s).length) (e:p<q),((aB l s)[p]'(by omega)).2<((aB l s)[q]).2/\((aB l s)[p]'(by omega)).1<((aB l s)[q]).1:=by
  intro p q d e;obtain⟨k,c,j,a,o⟩:=jH (show p<(aB l s).length by omega);obtain⟨m,t,b1,g,b3⟩:=jH d;rw[kql (by omega)] at a g;have a:=Option.some.inj a;have g:=Option.some.inj g;have i:k<m:=by
   rcases kq6 k m with n|n
   .exact n
   have:=oM (l:=l) s n;omega
  have v:=yF h s (show k+1<=m by omega) (by omega);have u:=(eH _).1 (dV w c).1;rw[bP l k c] at u;rw[iz c,if_pos j] at v;have r:=lK h t i;rw[bP l k c,bP l m t] at r;rw[a,g];exact⟨by dsimp only;omega,r⟩
 refine⟨λp b=>?_,f,λb=>?_⟩
 .refine ⟨?_,Ik b (λq d=>by have:=(f q p b d).2;omega)⟩;obtain⟨k,c,j,a,o⟩:=jH b;rw[kql b] at a;rw[Option.some.inj a];have:=tz h hs c;rw[bP l k c] at this;exact this
 obtain⟨k,c,j,a,o⟩:=jH b;rw[kql b] at a;rw[Option.some.inj a];exact ye (kx2 o)
def eG (l:List Bk):List Int:=(l.filter (·.mark)).map Bk.at_
theorem lL:∀ {l:List Bk},(∀b∈l,b.mark=true->b.kind=1)->∀s,eG l=(aB l s).map Prod.fst:=by
 intro l
 induction l with
 | nil=>intro _ s;rfl
 | cons b l d =>
  intro h s;have d:=d (λc f=>h c (by simp[f]));cases a:b.mark with
  | true =>
   have e:a8 b=true:=by simp[a8,a,h b (by simp) a]
   simp only[eG,kxr,a,if_true,kxj,aB,e];congr 1;exact d (s+b.size)
  | false =>
   have e:a8 b=false:=by simp[a8,a]
   simp only[eG,kxr,a,kzh,if_false,aB,e];exact d s
theorem jl(h:blocks ws i=some l)(h2:i%2=0):∀b∈l,b.mark=true->b.kind=1:=by
 intro b j g;obtain⟨m,f,rfl⟩:=kqz j;obtain⟨a,e,-,-,-,n,-⟩:=cp _ _ h h2 m f;have k:=(bD _).1 (fP n);rw[e] at g |-;have d:(aq (wd ws a)).mark=true:=g;show (aq (wd ws a)).kind=1;rcases k.2 with c|c
 .exact c.1
 rw[d] at c;exact absurd c.2.2.1 (by simp)
theorem tP{a:Bk}(h:a8 a=a8 b)(s:Int):bE a s=bE b s:=by unfold bE;rw[h]
theorem ue{a:Bk}(h:a8 a=a8 b)(h2:a.size=b.size)(s:Int):eX a s=eX b s:=by unfold eX;rw[h,h2]
theorem nH:∀ {l:List Bk} {s:Int},aV (fwB l s) s=[]:=by
 intro l
 induction l with
 | nil=>intro s;rfl
 | cons b l ih =>
  intro s;simp only[fwB,aV];have c:a8 (if b.kind=1 then { b with next:=bE b s } else b)=a8 b:=by split<;>rfl
  have f:(if b.kind=1 then { b with next:=bE b s } else b).size=b.size:=by split<;>rfl
  have e:eX (if b.kind=1 then { b with next:=bE b s } else b) s=eX b s:=ue c f s;have d:bE (if b.kind=1 then { b with next:=bE b s } else b) s=bE b s:=tP c s;rw[e,ih,d];by_cases a:b.kind=1
  .rw[if_pos a,if_neg (λh=>h.2 rfl)];rfl
  rw[if_neg a,if_neg (λh=>a h.1)];rfl
theorem AM(hw:∀j,j<128->wd xs j=wd ws j)(hb:b.kind=1->tyA b+1<128)(s:Int):dK xs (if b.kind=1 then { b with next:=bE b s } else b)=dK ws b:=by
 by_cases a:b.kind=1
 .rw[if_pos a];have h2:=hb a;unfold dK cZ;show (b.kind != 1||(cr (wd xs (tyA b)) (wd xs (tyA b+1))&&b.size==((bi (wd xs (tyA b)%256):Nat):Int)))=_;rw[hw _ (by omega),hw _ (by omega)]
 rw[if_neg a];have:(b.kind != 1)=true:=by rw[kqv];exact a
 simp[dK,this]
theorem Ed(hw:∀j,j<128->wd xs j=wd ws j):∀ {l:List Bk} {s:Int},(∀b∈l,b.kind=1->tyA b+1<128)->(∀b∈l,0<=b.size)->l.all (dK ws)=true->0<=s->ci xs (fwB l s) s=true/\(fwB l s).all (dK xs)=true:=by
 intro l
 induction l with
 | nil=>intro s _ _ _ _;exact⟨rfl,rfl⟩
 | cons b l ih =>
  intro s i h f hs;simp only[List.all_cons,kqt] at f;have e:=AM hw (i b (by simp)) s;have o:a8 (if b.kind=1 then { b with next:=bE b s } else b)=a8 b:=by split<;>rfl
  have k:(if b.kind=1 then { b with next:=bE b s } else b).size=b.size:=by split<;>rfl
  obtain⟨d,n⟩:=ih (s:=eX b s) (λc g=>i c (by simp[g])) (λc g=>h c (by simp[g])) f.2 (by have:=h b (by simp);unfold eX;split<;>omega);refine⟨?_,by simp only[fwB,List.all_cons,e,f.1,n,kzq]⟩;simp only[fwB,ci,e,f.1,kzq,o,k];unfold eX at d |-;cases a:a8 b with
  | true =>
   have m:b.kind=1:=by simp[a8] at a;exact a.1
   simp only[a,if_true] at d |-;rw[d,Bool.and_true,if_pos m];simp only[bE,a,if_true,kqw];omega
  | false =>simp only[a,kzh,if_false] at d |-;exact d
theorem pM(h:ah ws=0):∃l,blocks ws 128=some l/\af ws=l/\eB l 128=0/\bh (ak ws (aV l 128)) 128 128=0/\iB (ak ws (aV l 128)) 128 128=aB l 128 /\
 ah (ak ws (aV l 128))=0/\af (ak ws (aV l 128))=fwB l 128/\aV (fwB l 128) 128=[]/\eG l=(aB l 128).map Prod.fst:=by
 obtain⟨k,l,d,v,y⟩:=aA h;have o:=(aa _).1 k;have g:=lq (i:=128) (by omega) d (by omega) (by omega) (by omega) (s:=128) (by omega) (by omega) (by omega);obtain⟨hre,-⟩:=eQ g;obtain⟨n,x⟩:=tA _ ws 128 l (kqa _) d 128;have c:(ak ws (aV l 128)).length=ws.length:=ax _ _;obtain⟨w,t⟩:=Ed (xs:=ak ws (aV l 128)) (λj hj=>x j (by omega)) (l:=l) (s:=128) (jy d (by omega)) (λb o=>by
  obtain⟨m,u,rfl⟩:=kqz o;obtain⟨a,e,-⟩:=cp _ _ d (by omega) m u;rw[e,bq];omega) v (by omega)
 have f:bh (ak ws (aV l 128)) 128 128=0:=by
  rw[iY (l:=fwB l 128) (by rw[c,ft];exact k) ?_ n,if_pos w];rw[c];cases p:fU ws.length 128 128 with
  | false=>rfl
  | true=>exact absurd (by omega) ((lg _ _ _).1 p)
 obtain⟨q,r⟩:=fT (by rw[c];exact k) n t;refine⟨l,d,y,g,f,?_,q,r,nH,lL (jl d (by omega)) 128⟩;unfold iB;rw[if_pos f];show (match blocks (ak ws (aV l 128)) 128 with|none=>[] | some l=>aB l 128)=_;rw[n];exact EG.2.1
theorem Cq :∀i l,blocks ws i=some l->∀s,(aV l s).Pairwise (λa b=>a.a<b.a):=by
 refine d7 _ (λi _ s=>List.Pairwise.nil) (λi l hi f d c s=>?_);have hsz:=aF f;simp only[aV];split
 .refine List.Pairwise.cons (λe g=>?_) (c _);have:=qt _ _ d _ e g;show (bkAt ws i).at_+1<e.a;rw[ab];omega
 exact c _
def jc (b:Bk):Int:=if je b=true then 0 else 8
theorem iV(h:je b=true):jc b=0:=by simp[jc,h]
theorem mN(h:je b=false):jc b=8:=by simp[jc,h]
theorem CS{xs:Int}(h:(2<=xs/\xs%2=0)/\(xk=1/\0<=xt/\xt<8/\xs<=10\/xk=2/\xt=0/\xm=false/\xs<=1920)):(0:Int)=jc ⟨xa,xs,xk,xt,xm,xn⟩:=(iV ((bD _).2 h)).symm
theorem AA{xs:Int}(h:¬ ((2<=xs/\xs%2=0)/\(xk=1/\0<=xt/\xt<8/\xs<=10\/xk=2/\xt=0/\xm=false/\xs<=1920))):(8:Int)=jc ⟨xa,xs,xk,xt,xm,xn⟩:=
 (mN (by
  cases a:je ⟨xa,xs,xk,xt,xm,xn⟩ with
  | false=>rfl
  | true=>exact absurd ((bD _).1 a) h)).symm
theorem rJ(b:Bk)(w:World):Calls prog 165 #[b.val] w λe w'=>e=.returned (.int .i64 (jc b))/\Below w.heap.size w w':=by
 obtain⟨xa,xs,xk,xt,a,xn⟩:=b;unfold Bk.val;cases a
 all_goals
  go_enter func165,ntmps165;go_wp2_with fail
  all_goals
   go_ret;refine⟨?_,(kqk _ _).alloc (kqa _) _⟩;(try simp only[kqv,ne_eq,kqr,kx4,kk2,kqc,kzc] at *)
   first
    | (exfalso;omega)
    | exact mK (CS (by simp only[reduceCtorEq,and_false,false_and,or_false,true_and];omega))
    | exact mK (AA (by simp only[reduceCtorEq,and_false,false_and,or_false,true_and];omega))
def OfRes (b:Bk) (e:Ending):Prop:=∃a1 a2 a3 a4,e=.returned (.agg #[.int .u64 (kD b:Nat),a1,a2,a3,a4])
theorem km{a:Nat}(ha:a<2 ^ i):a ||| x*2 ^ i=a+x*2 ^ i:=by rw[Nat.or_comm,nat_join i _ a (by simp) ha,kju]
theorem vL{K M T S:Nat}{m:Int}(hK:K<256)(hM:M<=1)(hT:T<128)(hS:S<65536)(hm:m=((M*256:Nat):Int)):
 bits BinOp.or .u64 (bits BinOp.or .u64 (bits BinOp.or .u64 (K:Int) m) ((T:Int)*512)) ((S:Int)*65536)=((K+M*256+T*512+S*65536:Nat):Int):=by
 subst hm;have c:=u64_or_nat K (M*256) (by omega) (by omega);have f:K ||| M*256=K+M*256:=by rw[show M*256=M*2 ^ 8 from rfl,km hK]
 rw[f] at c;rw[c];have a:=u64_or_nat (K+M*256) (T*512) (by omega) (by omega);have e:K+M*256 ||| T*512=K+M*256+T*512:=by rw[show T*512=T*2 ^ 9 from rfl,km (by omega)]
 rw[e] at a;rw[show ((T:Int)*512)=((T*512:Nat):Int) by simp,a];have b:=u64_or_nat (K+M*256+T*512) (S*65536) (by omega) (by omega);have d:K+M*256+T*512 ||| S*65536=K+M*256+T*512+S*65536:=by rw[show S*65536=S*2 ^ 16 from rfl,km (by omega)]
 rw[d] at b;rw[show ((S:Int)*65536)=((S*65536:Nat):Int) by simp,b]
theorem nw(w:World)(cs:List Value)(t:TypeId):Rd (w.alloc (.cells cs.toArray t)) (w.heap.size+1) (some ⟨w.heap.size,0,none⟩) cs:=λ_ =>
 ⟨w.heap.size,0,rfl,by omega,λj a=>by
  have:=(Bx.new w t cs.toArray).cell j
  rw[kxd,this]
  simp[a]⟩
theorem hdOf_c(b:Bk)(w:World)(hb:je b=true):Calls prog 166 #[b.val] w λe w'=>OfRes b e/\Below w.heap.size w w':=by
 obtain⟨d,a,c,i,g,h,h7⟩:=tI hb;clear hb;obtain⟨xa,xs,xk,xt,f,xn⟩:=b;dsimp only at *;obtain⟨K,rfl⟩:=kq2 i;obtain⟨T,rfl⟩:=kq2 g;obtain⟨S,rfl⟩:=kq2 h;simp only[kqj] at d a c;unfold Bk.val;cases f
 all_goals
  go_enter func166,ntmps166;go_wp2_with fail
 .refine kqo (v:=.agg #[.int .u64 (bits BinOp.or .u64 (bits BinOp.or .u64 (bits BinOp.or .u64 (K:Int) 0) ((T:Int)*512)) ((S:Int)*65536)),.int .u64 (K:Int),.int .u64 (T:Int),.int .u64 (S:Int),.int .u64 0]) (by simp[results,results166,go_sem]) rfl ⟨?_,?_⟩
  .refine ⟨.int .u64 (K:Int),.int .u64 (T:Int),.int .u64 (S:Int),.int .u64 0,?_⟩;rw[vL (M:=0) d (by omega) a c (by simp)];rfl
  exact (((kqk _ _).alloc (kqa _) _).alloc (by simp) _).alloc (by simp;omega) _
 refine kqo (v:=.agg #[.int .u64 (bits BinOp.or .u64 (bits BinOp.or .u64 (bits BinOp.or .u64 (K:Int) 256) ((T:Int)*512)) ((S:Int)*65536)),.int .u64 (K:Int),.int .u64 (T:Int),.int .u64 (S:Int),.int .u64 1]) (by simp[results,results166,go_sem]) rfl ⟨?_,?_⟩
 .refine ⟨.int .u64 (K:Int),.int .u64 (T:Int),.int .u64 (S:Int),.int .u64 1,?_⟩;rw[vL (M:=1) d (by omega) a c (by simp)];rfl
 exact (((kqk _ _).alloc (kqa _) _).alloc (by simp) _).alloc (by simp;omega) _
theorem or32{t:Nat}(hx:x<4294967296)(ht:t<4294967296):bits BinOp.or .u64 (x:Int) ((t:Int)*4294967296)=((x+t*4294967296:Nat):Int):=by have h:=u64_or_nat x (t*4294967296) (by omega) (by omega);rw[show t*4294967296=t*2 ^ 32 from rfl,km (i:=32) (by omega)] at h;rw[<-h];simp
theorem Fc(x:Nat)(w:World)(hx:x<4294967296):Calls prog 167 #[.int .u64 (x:Int)] w λe w'=>e=.returned (.tuple #[.int .u64 ((x+ig x%4294967296*4294967296:Nat):Int),.int .i64 0])/\Below w.heap.size w w':=by
 have d:ig x%4294967296<4294967296:=kzz _ (by omega);have b:=hid (or32 hx d);have i:=hid hx;have hx0:(0:Int)<=(x:Int):=by omega
 have k:Hid (aY 14695981039346656037 [x]=ig x):=hid rfl;clear hx;go_enter func167,ntmps167;go_wp2_with fail;have c:=nw w [.int .u64 (x:Int)] 53;refine (xu _ [x] _ 1 _ rfl (by omega) (by rw[kqm];exact c) (by intro y h;simp at h;subst h;have:=i.out;omega)).mono ?_;rintro e w1 ⟨rfl,a⟩;rw[kqm] at a;have f:=aw a;rw[k.out];obtain⟨t,g⟩:=xq (ig x%4294967296);have j:=hid g;rw[g] at d b |-;clear g a c;go_wp2;go_ret2;exact⟨by rw[j.out,<-b.out];rfl,f⟩
def jg (b:Bk):Nat:=if je b=true then cV b else 0
theorem qE(b:Bk)(w:World):Calls prog 105 #[b.val] w λe w'=>e=.returned (.tuple #[.int .u64 (jg b:Nat),.int .i64 (jc b)])/\Below w.heap.size w w':=by
 cases c:je b
 .have i:=hid (show jg b=0 by simp[jg,c]);have h:=hid (mN c);have d:=hid (λW=>rJ b W);clear c;obtain⟨C,xs,x,z,t,y⟩:=b;unfold Bk.val at d |-;dsimp only at d |-;go_enter func105,ntmps105;go_wp2_with fail;refine (d.out _).mono ?_;rintro e s ⟨rfl,a⟩;rw[kqm] at a;rw[h.out];go_wp2;go_ret2;exact⟨by rw[i.out,h.out];rfl,aw a⟩
 have i:=hid (show jg b=kD b+ig (kD b)%4294967296*4294967296 by simp[jg,c,cV]);have h:=hid (iV c);have d:=hid (λW=>rJ b W);have m:=hid (λW=>hdOf_c b W c);have p:=hid (uH c);clear c;obtain⟨q,j⟩:=xq (kD b);have u:=hid j;rw[j] at i p;clear j;obtain⟨C,xs,x,z,t,y⟩:=b;unfold Bk.val at d m |-;dsimp only at d m |-;go_enter func105,ntmps105;go_wp2_with fail;refine (d.out _).mono ?_;rintro e s ⟨rfl,a⟩;rw[kqm] at a;have f:=aw a;have o:=Bx.of_new a;obtain⟨c0,c1,c2,c3,c4,c5,-,hz⟩:=o.c6;rw[h.out];clear o a;go_wp2_with fail;refine (m.out _).mono ?_;rintro e w2 ⟨⟨v,A,B,r,rfl⟩,n⟩;have g:=f.trans (n.mono f.size);rw[u.out];have hfld:∀W,(Instr.field 231 (.agg #[.int .u64 (q:Int),v,A,B,r]) 0).run prog W=.ok (.int .u64 (q:Int)) W:=λ_=>by kernel_rfl
 go_wp2_with fail;refine (Fc q _ p.out).mono ?_;rintro e w3 ⟨rfl,k⟩;have l:=g.trans (k.mono g.size);rw[<-i.out];go_wp2;go_ret2;exact⟨by rw[h.out];rfl,l⟩
def mA:Bk:=⟨0,0,0,0,false,0⟩
def Dp (w:Nat):Bk:=if aD w=true then aq w else mA
def oj (w:Nat):Int:=if aD w=true then 0 else 50
theorem l7{w:Nat}(h:aD w=true):Dp w=aq w/\oj w=0:=by simp[Dp,oj,h]
theorem ml{w:Nat}(h:aD w=false):Dp w=mA/\oj w=50:=by simp[Dp,oj,h]
theorem uk(hx:x<18446744073709551616)(hm:m=2 ^ k-1)(hk:m<18446744073709551616):bits BinOp.and .u64 (x:Int) (m:Int)=((x%2 ^ k:Nat):Int):=by rw[u64_and_nat x m hx hk,hm,kxx]
theorem uo(w:Nat)(hw:w<18446744073709551616):bits BinOp.and .u64 (w:Int) 255=((w%256:Nat):Int)/\bits BinOp.and .u64 ((w:Int)/256) 1=((w/256%2:Nat):Int)/\bits BinOp.and .u64 ((w:Int)/512) 127=((w/512%128:Nat):Int)/\bits BinOp.and .u64 ((w:Int)/65536) 65535=((w/65536%65536:Nat):Int):=
 ⟨uk (k:=8) (m:=255) hw (by decide) (by omega),uk (x:=w/256) (k:=1) (m:=1) (by omega) (by decide) (by omega),uk (x:=w/512) (k:=7) (m:=127) (by omega) (by decide) (by omega),uk (x:=w/65536) (k:=16) (m:=65535) (by omega) (by decide) (by omega)⟩
theorem aX{fn:Func}{p q:Tmp}(h:fn.results=#[.cell p 55,.tmp q])(tmps:Array Value){W:World}{v0 v1 v2 v3 v4 v5 u:Value}(hb:Bx W g t #[v0,v1,v2,v3,v4,v5])(hp:tmps.getD p undef=.pointer (some ⟨g,0,none⟩))(hq:tmps.getD q undef=u):
 (results fn tmps).run prog W=.ok (.tuple #[.agg #[v0,v1,v2,v3,v4,v5],u]) W:=by obtain⟨c,f,e,d,a,b,-,-⟩:=hb.c6;rw[kxp] at hp hq;simp[results,h,hp,hq,go_sem,c,f,e,d,a,b]
theorem nB(x:Nat)(w:World)(hx:x<18446744073709551616):Calls prog 172 #[.int .u64 (x:Int)] w λe w'=>e=.returned (.tuple #[(Dp x).val,.int .i64 (oj x)])/\Below w.heap.size w w':=by
 obtain⟨Y,I,Q,e4⟩:=uo x hx;have j:=hid (λW=>qE (aq x) W);have B:Hid (jc (aq x)=0->jg (aq x)=x->Dp x=aq x/\oj x=0):=hid λL h2=>l7 (by
  have O:je (aq x)=true:=by
   cases r:je (aq x) with
   | true=>rfl
   | false=>rw[mN r] at L;cases L
  simp only[jg,O,if_true] at h2;simp[aD,O,h2])
 have o:Hid (jc (aq x)≠0\/jg (aq x)≠x->Dp x=mA/\oj x=50):=hid λh=>ml (by
  cases r:je (aq x) with
  | false=>simp[aD,r]
  | true =>
   rcases h with h|h
   .exact absurd (iV r) h
   simp only[jg,r,if_true] at h;simp[aD,r,h])
 have hx0:(0:Int)<=(x:Int):=by omega
 have g:(aq x).val=.agg #[.int .i64 0,.int .i64 ((x/65536%65536:Nat):Int),.int .i64 ((x%256:Nat):Int),.int .i64 ((x/512%128:Nat):Int),.bool (x/256%2==1),.int .u64 0]:=rfl;have m1:x%256<256:=kzz _ (by omega);have m2:x/256%2<2:=kzz _ (by omega);have Z:x/512%128<128:=kzz _ (by omega);have U:x/65536%65536<65536:=kzz _ (by omega);rw[g] at j;have a:=hid g;have f:((((x/256%2:Nat):Int))==1)=(x/256%2==1):=by rw[kzg,kqw,kqw];omega
 obtain⟨K,X⟩:=xq (x%256);obtain⟨M,N⟩:=xq (x/256%2);obtain⟨T,J⟩:=xq (x/512%128);obtain⟨S,P⟩:=xq (x/65536%65536);rw[X] at Y m1 j a;rw[N] at I m2 f j a;rw[J] at Q Z j a;rw[P] at e4 U j a;obtain⟨s,u⟩:=xq ((M==1));rw[u] at f j a;obtain⟨V,n⟩:=xq (jg (aq x));obtain⟨R,c⟩:=xq (jc (aq x));rw[n,c] at B o j;clear hx g X N J P u n c;go_enter func172,ntmps172;go_wp2_with fail;have E:=(Bx.new w 55 #[.int .i64 0,.int .i64 0,.int .i64 0,.int .i64 0,.bool false,.int .u64 0]).alloc (.cells #[.int .i64 0,.int .i64 (S:Int),.int .i64 (K:Int),.int .i64 (T:Int),.bool s,.int .u64 0] 55);have D:=Bx.new (w.alloc (.cells #[.int .i64 0,.int .i64 0,.int .i64 0,.int .i64 0,.bool false,.int .u64 0] 55)) 55 #[.int .i64 0,.int .i64 (S:Int),.int .i64 (K:Int),.int .i64 (T:Int),.bool s,.int .u64 0];have i:Below w.heap.size w ((w.alloc (.cells #[.int .i64 0,.int .i64 0,.int .i64 0,.int .i64 0,.bool false,.int .u64 0] 55)).alloc (.cells #[.int .i64 0,.int .i64 (S:Int),.int .i64 (K:Int),.int .i64 (T:Int),.bool s,.int .u64 0] 55)):=((kqk _ _).alloc (kqa _) _).alloc (by simp) _;have t:((w.alloc (.cells #[.int .i64 0,.int .i64 0,.int .i64 0,.int .i64 0,.bool false,.int .u64 0] 55)).alloc (.cells #[.int .i64 0,.int .i64 (S:Int),.int .i64 (K:Int),.int .i64 (T:Int),.bool s,.int .u64 0] 55)).heap.size=w.heap.size+2:=by simp
 rw[kqm] at D;obtain⟨H,A⟩:∃H,(w.alloc (.cells #[.int .i64 0,.int .i64 0,.int .i64 0,.int .i64 0,.bool false,.int .u64 0] 55)).alloc (.cells #[.int .i64 0,.int .i64 (S:Int),.int .i64 (K:Int),.int .i64 (T:Int),.bool s,.int .u64 0] 55)=H:=⟨_,rfl⟩;rw[A] at E D i t |-;clear A;refine (j.out H).mono ?_;rintro e w1 ⟨rfl,d⟩;have m:=i.trans (d.mono i.size);obtain⟨c0,c1,c2,c3,c4,c5,q,cz⟩:=(E.up d (by omega)).c6;obtain⟨d0,d1,d2,d3,d4,d5,df,dz⟩:=(D.up d (by omega)).c6;have cf0:=q 0;have cf1:=q 1;have cf2:=q 2;have cf3:=q 3;have cf4:=q 4;have cf5:=q 5;have F:=hid (E.up d (by omega));clear E D d i t q df Y I Q e4 f m1 m2 Z U;by_cases c:R=0
 .by_cases n:V=x
  .obtain ⟨k,l⟩:=B.out c n;have z:=hid k;have y:=hid l;have C:(R != 0)=false:=by rw[kqr];exact c
   have G:((V:Int) != (x:Int))=false:=by rw[kqr];omega
   clear c n k l;go_wp2_with fail;refine kqo (v:=.tuple #[.agg #[.int .i64 0,.int .i64 (S:Int),.int .i64 (K:Int),.int .i64 (T:Int),.bool s,.int .u64 0],.int .i64 0]) (aX results172 _ ((((((F.out.set_ 0 _).set_ 1 _).set_ 2 _).set_ 3 _).set_ 4 _).set_ 5 _) rfl rfl) rfl ⟨by rw[z.out,y.out,a.out],?_⟩;exact (kq7 (p:=⟨w.heap.size,5,none⟩) (kq7 (p:=⟨w.heap.size,4,none⟩) (kq7 (p:=⟨w.heap.size,3,none⟩) (kq7 (p:=⟨w.heap.size,2,none⟩) (kq7 (p:=⟨w.heap.size,1,none⟩) (kq7 (p:=⟨w.heap.size,0,none⟩) m (kqa _) _) (kqa _) _) (kqa _) _) (kqa _) _) (kqa _) _) (kqa _) _)
  obtain⟨k,l⟩:=o.out (.inr n);have z:=hid k;have y:=hid l;have C:(R != 0)=false:=by rw[kqr];exact c
  have G:((V:Int) != (x:Int))=true:=by rw[kqv];omega
  clear c n k l;go_wp2_with fail;refine kqo (v:=.tuple #[.agg #[.int .i64 0,.int .i64 0,.int .i64 0,.int .i64 0,.bool false,.int .u64 0],.int .i64 50]) (aX results172 _ ((((((F.out.set_ 0 _).set_ 1 _).set_ 2 _).set_ 3 _).set_ 4 _).set_ 5 _) rfl rfl) rfl ⟨by rw[z.out,y.out];rfl,?_⟩;exact (kq7 (p:=⟨w.heap.size,5,none⟩) (kq7 (p:=⟨w.heap.size,4,none⟩) (kq7 (p:=⟨w.heap.size,3,none⟩) (kq7 (p:=⟨w.heap.size,2,none⟩) (kq7 (p:=⟨w.heap.size,1,none⟩) (kq7 (p:=⟨w.heap.size,0,none⟩) m (kqa _) _) (kqa _) _) (kqa _) _) (kqa _) _) (kqa _) _) (kqa _) _)
 obtain⟨k,l⟩:=o.out (.inl c);have z:=hid k;have y:=hid l;have C:(R != 0)=true:=by rw[kqv];exact c
 clear c k l;go_wp2_with fail;refine kqo (v:=.tuple #[.agg #[.int .i64 0,.int .i64 0,.int .i64 0,.int .i64 0,.bool false,.int .u64 0],.int .i64 50]) (aX results172 _ ((((((F.out.set_ 0 _).set_ 1 _).set_ 2 _).set_ 3 _).set_ 4 _).set_ 5 _) rfl rfl) rfl ⟨by rw[z.out,y.out];rfl,?_⟩;exact (kq7 (p:=⟨w.heap.size,5,none⟩) (kq7 (p:=⟨w.heap.size,4,none⟩) (kq7 (p:=⟨w.heap.size,3,none⟩) (kq7 (p:=⟨w.heap.size,2,none⟩) (kq7 (p:=⟨w.heap.size,1,none⟩) (kq7 (p:=⟨w.heap.size,0,none⟩) m (kqa _) _) (kqa _) _) (kqa _) _) (kqa _) _) (kqa _) _) (kqa _) _)
def stB (ws:List Nat) (a:Nat):Bk:=if stands ws a=true then bkAt ws a else mA
def t5 (ws:List Nat) (a:Nat):Int:=if stands ws a=true then 0 else 50
theorem wL{a:Nat}(h:stands ws a=true):stB ws a=bkAt ws a/\t5 ws a=0:=by simp[stB,t5,h]
theorem zE{a:Nat}(h:stands ws a=false):stB ws a=mA/\t5 ws a=50:=by simp[stB,t5,h]
theorem cA(h:i<ws.length):wd ws i=ws[i]:=by simp[wd,h]
theorem fM(ho:∀x∈ws,x<18446744073709551616)(i:Nat):wd ws i<18446744073709551616:=by
 by_cases h:i<ws.length
 .rw[cA h];exact ho _ (kqq h)
 simp[wd,h]
theorem mx{x0 x1 x2 x3 x4 x5:Value}(h:Bx w g t #[x0,x1,x2,x3,x4,x5])(u0 u1 u2 u3 u4 u5:Value):
 Bx ((((((w.setCell ⟨g,0,none⟩ u0).setCell ⟨g,1,none⟩ u1).setCell ⟨g,2,none⟩ u2).setCell ⟨g,3,none⟩ u3).setCell ⟨g,4,none⟩ u4).setCell ⟨g,5,none⟩ u5) g t #[u0,u1,u2,u3,u4,u5]:=
 (((((h.set_ 0 u0).set_ 1 u1).set_ 2 u2).set_ 3 u3).set_ 4 u4).set_ 5 u5
theorem fI(h:Below B w0 w)(hg:B<=g)(u0 u1 u2 u3 u4 u5:Value):
 Below B w0 ((((((w.setCell ⟨g,0,none⟩ u0).setCell ⟨g,1,none⟩ u1).setCell ⟨g,2,none⟩ u2).setCell ⟨g,3,none⟩ u3).setCell ⟨g,4,none⟩ u4).setCell ⟨g,5,none⟩ u5):=
 (((((h.setCell (p:=⟨g,0,none⟩) hg u0).setCell (p:=⟨g,1,none⟩) hg u1).setCell (p:=⟨g,2,none⟩) hg u2).setCell (p:=⟨g,3,none⟩) hg u3).setCell (p:=⟨g,4,none⟩) hg u4).setCell (p:=⟨g,5,none⟩) hg u5
theorem mP(A:Option Addr)(ws:List Nat)(c n a:Nat)(w:World)(hn:ws.length=n)(hm:n<=1000000)(ha:a+1<n)(hr:RdW w w.heap.size A ws)(ho:∀x∈ws,x<18446744073709551616):
 Calls prog 112 #[.slice A n c,.int .i64 (a:Int)] w λe w'=>e=.returned (.tuple #[(stB ws a).val,.int .i64 (t5 ws a)])/\Below w.heap.size w w':=by
 subst hn;have HR:=hid hr;have s:=fM ho a;have g:=hid (λW=>nB (wd ws a) W s);obtain⟨b,r,rfl,hb,U⟩:=RdW.at_ hr (show a<ws.length by omega);obtain⟨b',off',e',-,R⟩:=RdW.at_ hr ha;cases e';rw[<-cA] at U R;have ik0:(0:Int)<=(a:Int):=by omega
 have ik1:(a:Int)<(ws.length:Int):=by omega
 have ik2:(a:Int)+1<(ws.length:Int):=by omega
 have ik3:(0:Int)<=(a:Int)+1:=by omega
 have htn:((a:Int)+1).toNat=a+1:=by omega
 have k:(aq (wd ws a)).val=.agg #[.int .i64 0,.int .i64 ((szAt ws a:Nat):Int),.int .i64 ((wd ws a%256:Nat):Int),.int .i64 ((wd ws a/512%128:Nat):Int),.bool (wd ws a/256%2==1),.int .u64 0]:=rfl;have o:(bkAt ws a).val=.agg #[.int .i64 (a:Int),.int .i64 ((szAt ws a:Nat):Int),.int .i64 ((wd ws a%256:Nat):Int),.int .i64 ((wd ws a/512%128:Nat):Int),.bool (wd ws a/256%2==1),.int .u64 ((wd ws (a+1):Nat):Int)]:=rfl;have Z:szAt ws a<65536:=kzz _ (by omega);have i:Hid (stands ws a=(aD (wd ws a)&&decide ((szAt ws a:Int)<=(ws.length:Int)-a))):=hid rfl;have H:Hid (stands ws a=false->stB ws a=mA/\t5 ws a=50):=hid zE;have Y:Hid (stands ws a=true->stB ws a=bkAt ws a/\t5 ws a=0):=hid wL;cases t:aD (wd ws a)
 .obtain ⟨l,m⟩:=H.out (by rw[i.out,t];rfl);obtain⟨I,B⟩:=ml t;rw[I,B] at g;have O:=hid l;have G:=hid m;clear hr k o t l m I B s;unfold Bk.val mA at g;dsimp only at g;obtain⟨x,s⟩:=xq (wd ws a);rw[s] at U g;clear s;go_enter func112,ntmps112;go_wp2_with fail;refine (g.out _).mono ?_;rintro e Q ⟨rfl,d⟩;rw[kqm] at d;have j:=Bx.of_new d;have h:=aw d;have z:=hid j;obtain⟨c0,c1,c2,c3,c4,c5,f,cz⟩:=j.c6;have D:=f 0;have L:=f 1;have E:=f 2;have P:=f 3;have N:=f 4;have C:=f 5;clear j f d;go_wp2_with fail;refine kqo (v:=.tuple #[.agg #[.int .i64 0,.int .i64 0,.int .i64 0,.int .i64 0,.bool false,.int .u64 0],.int .i64 50]) (aX results112 _ ((mx z.out _ _ _ _ _ _).alloc _) rfl rfl) rfl ⟨by rw[O.out,G.out];rfl,(fI h (kqa _) _ _ _ _ _ _).alloc (by simp;have:=h.size;omega) _⟩
 obtain⟨I,B⟩:=l7 t;rw[I,B,k] at g;have q:=hid o;obtain⟨S,V⟩:=xq (szAt ws a);obtain⟨K,hK⟩:=xq (wd ws a%256);obtain⟨T,hT⟩:=xq (wd ws a/512%128);obtain⟨M,hM⟩:=xq ((wd ws a/256%2==1));rw[V,hK,hT,hM] at g q;rw[V] at Z i;rw[t,kzq] at i;obtain⟨x,u⟩:=xq (wd ws a);obtain⟨y,J⟩:=xq (wd ws (a+1));rw[u] at U g;rw[J] at R q;clear hr k o t I B s V hK hT hM u J;by_cases F:(ws.length:Int)-a<S
 .obtain ⟨l,m⟩:=H.out (by rw[i.out,kqc];omega);have O:=hid l;have G:=hid m;clear l m;go_enter func112,ntmps112;go_wp2_with fail;refine (g.out _).mono ?_;rintro e Q ⟨rfl,d⟩;rw[kqm] at d;have j:=Bx.of_new d;have h:=aw d;have z:=hid j;obtain⟨c0,c1,c2,c3,c4,c5,f,cz⟩:=j.c6;have D:=f 0;have L:=f 1;have E:=f 2;have P:=f 3;have N:=f 4;have C:=f 5;clear j f d;go_wp2_with fail;refine kqo (v:=.tuple #[.agg #[.int .i64 0,.int .i64 0,.int .i64 0,.int .i64 0,.bool false,.int .u64 0],.int .i64 50]) (aX results112 _ ((mx z.out _ _ _ _ _ _).alloc _) rfl rfl) rfl ⟨by rw[O.out,G.out];rfl,(fI h (kqa _) _ _ _ _ _ _).alloc (by simp;have:=h.size;omega) _⟩
 obtain⟨l,m⟩:=Y.out (by rw[i.out,kqn];omega);have O:=hid l;have G:=hid m;have hle:(S:Int)<=(ws.length:Int)-a:=by omega
 clear l m F;go_enter func112,ntmps112;go_wp2_with fail;refine (g.out _).mono ?_;rintro e Q ⟨rfl,d⟩;rw[kqm] at d;have j:=Bx.of_new d;have h:=aw d;have z:=hid j;obtain⟨c0,c1,c2,c3,c4,c5,f,cz⟩:=j.c6;have D:=f 0;have L:=f 1;have E:=f 2;have P:=f 3;have N:=f 4;have C:=f 5;clear j f d;have hbw:b<Q.heap.size:=by have:=h.size;omega
 have Eq:=(h.cell (p:=⟨b,r+(a+1),none⟩) hb).trans R;have hwr:IntKind.i64.wrap ((a:Int)+1)=(a:Int)+1:=kqs _ (by omega);go_wp2_with fail;have hne:=World.new_ne Q ⟨b,r+(a+1),none⟩ Eq
 go_region_held3 (λX:World=>X.cell? ⟨b,r+(a+1),none⟩=some (.int .u64 (y:Int))) (go_keep) (fail)
 all_goals
  go_wp2_with fail;refine kqo (v:=.tuple #[.agg #[.int .i64 (a:Int),.int .i64 (S:Int),.int .i64 (K:Int),.int .i64 (T:Int),.bool M,.int .u64 (y:Int)],.int .i64 0]) (aX results112 _ (show Bx (World.drew _) _ _ _ from (mx z.out _ _ _ _ _ _).alloc _) rfl rfl) rfl ⟨by rw[O.out,G.out,q.out],((fI h (kqa _) _ _ _ _ _ _).alloc (by simp;have:=h.size;omega) _).drew⟩
def fe (n:Nat) (a:Int):Bool:=decide (a<128)||(decide ((n:Int)<a)||a%2 != 0)
def cc (ws:List Nat) (a:Int):Int:=if aj (ws.length:Int)=true then (if fe ws.length a=true then 2 else (match blocks ws a.toNat with | none=>50 | some _=>0)) else 8
def aQ (ws:List Nat) (a:Int):List Bk:=if cc ws a=0 then (blocks ws a.toNat).getD [] else []
def qW (ws:List Nat) (a:Int) (e:Ending) (w':World):Prop:=∃A c,e=.returned (.tuple #[.slice A (aQ ws a).length c,.int .i64 (cc ws a)])/\RdB w' w'.heap.size A (aQ ws a)/\(aQ ws a).length<=c
theorem fH(h:aj (ws.length:Int)=false):cc ws a=8:=by simp[cc,h]
theorem jf(h:aj (ws.length:Int)=true)(h2:fe ws.length a=true):cc ws a=2:=by simp[cc,h,h2]
theorem eP(h:aj (ws.length:Int)=true)(h2:fe ws.length a=false)(h3:blocks ws a.toNat=none):cc ws a=50:=by simp[cc,h,h2,h3]
theorem cO(h:aj (ws.length:Int)=true)(h2:fe ws.length a=false)(h3:blocks ws a.toNat=some l):cc ws a=0/\aQ ws a=l:=by
 have:cc ws a=0:=by simp[cc,h,h2,h3]
 exact⟨this,by simp[aQ,this,h3]⟩
theorem jL(h:fe n a=false):128<=a/\a<=(n:Int)/\a%2=0:=by simp only[fe,kzn,kqc,kqr] at h;omega
theorem mX(h:¬ (128<=a/\a<=(n:Int)/\a%2=0)):fe n a=true:=by
 cases b:fe n a with
 | true=>rfl
 | false=>exact absurd (jL b) h
theorem kL(hr:cc ws a=r)(h0:r≠0):qW ws a (.returned (.tuple #[.slice none 0 0,.int .i64 r])) w':=by
 subst hr;have:aQ ws a=[]:=by simp[aQ,h0]
 exact⟨none,0,by rw[this];rfl,by rw[this];exact Rd.nil_,by rw[this];simp⟩
theorem AE(h0:cc ws a=0)(hl:aQ ws a=l)(h:w'.ownsRow H 55 6 v l.length (l.flatMap Bk.cells)):qW ws a (.returned (.tuple #[v,.int .i64 0])) w':=by
 have e:∃A c,v=.slice A l.length c/\l.length<=c:=by
  rcases h.2 with⟨rfl,d⟩|⟨g,cap,cur,rfl,_,_,b,_⟩
  .exact ⟨none,0,by rw[d],by omega⟩
  exact⟨_,_,rfl,b⟩
 obtain⟨A,c,rfl,b⟩:=e;exact⟨A,c,by rw[hl,h0],by rw[hl];exact Rd.of_own h,by rw[hl];exact b⟩
theorem kP:(prog.info? 55).map (λi=>(i.zero,i.size,i.bytes))=some (some (.agg #[.int .i64 0,.int .i64 0,.int .i64 0,.int .i64 0,.bool false,.int .u64 0]),6,48):=by kernel_rfl
theorem qh{sz:Nat}{xs:List Value}(hown:w.ownsRow H e sz v n xs):some w.heap.size≠v.ownBlock:=λh=>by have:=(hown.lt _ h.symm).2;omega
theorem lA(w:World)(cs:List Value)(t:TypeId)(h:w.heap.size=H):∀j u,cs[j]? = some u->(w.alloc (.cells cs.toArray t)).cell? ((⟨H,0,none⟩:Addr).add j)=some u:=by subst h;exact cI w cs t
theorem mf(A:Option Addr)(ws:List Nat)(c n:Nat)(a:Int)(w:World)(hn:ws.length=n)(hm:n<=9223372036854775807)(hr:RdW w w.heap.size A ws)(ho:∀x∈ws,x<18446744073709551616):
 Calls prog 65 #[.slice A n c,.int .i64 a] w λe w'=>qW ws a e w'/\Below w.heap.size w w':=by
 subst hn;have HR:=hid hr;have HO:=hid ho;clear hr ho;cases D:aj (ws.length:Int)
 .have U:=hid (bI D);have Q:=hid (fH (a:=a) D);clear D;go_enter func65,ntmps65;go_wp2_with fail;refine (aG A ws.length c w hm).mono ?_;rintro e B ⟨rfl,rfl⟩;rw[U.out];go_wp2;go_ret2;exact⟨kL Q.out (by omega),kqk _ _⟩
 have U:=hid (aZ D);have HS:=hid D;have hb:=kh (aZ D);obtain⟨h,hb2,M⟩:=hb;have Ke:=hid M;clear D hm M;by_cases d:128<=a/\a<=(ws.length:Int)/\a%2=0
 .obtain ⟨a1,a2,a3⟩:=d;have J:Hid (fe ws.length a=false):=hid (by
   simp only[fe,kzn,kqc,kqr];omega)
  have Kb:(a%2 != 0)=false:=by rw[kqr];exact a3
  have d1:decide (a<128)=false:=by rw[kqc];omega
  have d2:decide ((ws.length:Int)<a)=false:=by rw[kqc];omega
  have Eq:=hid a3;obtain⟨O,rfl⟩:=kq2 (show 0<=a by omega);have d2n:decide (ws.length<O)=false:=by rw[kqc];omega
  clear a3;obtain⟨i2,W,I,q,L⟩:=kzw kP;have HJ:=hid W;have Kd:=hid I;have Ka:=hid q;have Kf:=hid L;clear W I q L;go_enter func65,ntmps65;go_wp2_with fail;refine (aG A ws.length c w (by omega)).mono ?_;rintro e B ⟨rfl,rfl⟩;rw[U.out];go_wp2_with fail;go_loopw [1,7] (λp v wr=>∃(i:Nat) (b:List Bk),p=.int .i64 i/\O<=i/\i<=ws.length/\i%2=0/\blocks ws O=(blocks ws i).map (b ++ ·)/\b.length<=i/\wr.ownsRow w.heap.size 55 6 v b.length (b.flatMap Bk.cells)/\Below w.heap.size w wr) (λp _ _=>ws.length-(intOf p).toNat)
  case atStart=>exact⟨O,[],rfl,kqa _,by omega,by have:=Eq.out;omega,by simp,by simp,kza _ _ _ _,kqk _ _⟩
  obtain⟨i,b,rfl,q1,q2,q3,q4,q5,j,E⟩:=hrel;have X:=E.size;have Kg:=hid q3;have y:=hid q4;clear q4;by_cases F:i<ws.length
  .have s:i+1<ws.length:=by have:=Ke.out;omega
   clear q3;have ik1:(i:Int)<(ws.length:Int):=by omega
   cases g:stands ws i
   .have HN:=hid (eP HS.out J.out (by rw[kqj,y.out,di F g];rfl));obtain⟨K,G⟩:=zE g;have k:=hid (mP A ws c ws.length i wr rfl (by omega) s (HR.out.up E X) HO.out);rw[K,G] at k;unfold mA Bk.val at k;dsimp only at k;clear g K G j;go_wp2_with fail;refine k.out.mono ?_;rintro e B ⟨rfl,r⟩;have h:=E.trans (r.mono X);go_wp2;go_ret2;exact⟨kL HN.out (by omega),h.alloc h.size _⟩
   have H:=aF g;obtain⟨K,G⟩:=wL g;have k:=hid (mP A ws c ws.length i wr rfl (by omega) s (HR.out.up E X) HO.out);rw[K,G] at k;have u:=hid (show blocks ws O=(blocks ws (i+szAt ws i)).map ((b++[bkAt ws i]) ++ ·) by
    rw[y.out,aR F g];cases blocks ws (i+szAt ws i)<;>simp)
   have N:=hid (cq Bk.cells b (bkAt ws i));have m:=bq ws i;obtain⟨x,hx⟩:=xq (bkAt ws i);obtain⟨z,P⟩:=xq (szAt ws i);rw[hx] at k u N m;rw[P] at u H m;have HX:=hid hx;obtain⟨Y,xs,S,R,V,T⟩:=x;dsimp only at m;subst m;unfold Bk.val at k;dsimp only at k;obtain⟨z1,z2,z3⟩:=H;have Z:=hid z2;clear g K G hx P z2;go_wp2_with fail;refine k.out.mono ?_;rintro e B ⟨rfl,r⟩;have h:=E.trans (r.mono X);have f:=ai j r (kqa _);have q:=h.size;go_wp2_with (at_builtin;refine kze _ rfl _ _ 48 rfl w.heap.size 55 i2 _ 6 48 underlying48 HJ.out Kd.out Ka.out Kf.out rfl (by decide) _ _ _ rfl ((f.alloc _).alloc _) ⟨_,0,none⟩ 1 1 [.int .i64 Y,.int .i64 (z:Int),.int .i64 S,.int .i64 R,.bool V,.int .u64 (T:Int)] rfl rfl (lA _ _ _ (kqm _ _)) (by simp[Value.oneCell']) (by unfold maxLen;omega) (by omega) (by simp;omega) ?_;intro v1 w2 C t _;have o:Bx w2 B.heap.size 55 #[.int .i64 Y,.int .i64 (z:Int),.int .i64 S,.int .i64 R,.bool V,.int .u64 (T:Int)]:=((Bx.new B 55 _).alloc _).grown t (qh f);have Kc:=aE (h.alloc q (.cells #[.int .i64 Y,.int .i64 (z:Int),.int .i64 S,.int .i64 R,.bool V,.int .u64 (T:Int)] 55)) (by simp;omega) (f.alloc _) t;have hc1:w2.cell? ⟨B.heap.size,1,none⟩=some (.int .i64 (z:Int)):=o.cell 1;have hf1:=o.frozen 1;have hl1:=o.lt;clear t o);go_roundw
   case rel=>exact⟨i+z,b++[⟨Y,(z:Int),S,R,V,T⟩],by rw[kjn],by omega,by omega,by have:=Kg.out;have:=Z.out;omega,u.out,by simp;omega,by rw[N.out,kqu];exact C,Kc⟩
   case measure=>simp[intOf];omega
  have W:i=ws.length:=by omega
  have HD:=hid (cO HS.out J.out (l:=b) (by rw[kqj,y.out,aH (by omega)];simp));clear W q3;go_wp2;go_ret2;exact⟨AE HD.out.1 HD.out.2 j,E⟩
 have Q:=hid (jf HS.out (mX d));go_enter func65,ntmps65;go_wp2_with fail;refine (aG A ws.length c w (by omega)).mono ?_;rintro e B ⟨rfl,rfl⟩;rw[U.out];by_cases h1:a<128
 .clear d;go_wp2;go_ret2;exact⟨kL Q.out (by omega),kqk _ _⟩
 by_cases h2:(ws.length:Int)<a
 .clear d;go_wp2;go_ret2;exact⟨kL Q.out (by omega),kqk _ _⟩
 have Kb:(a%2 != 0)=true:=by rw[kqv];omega
 have d1:decide (a<128)=false:=by rw[kqc];omega
 have d2:decide ((ws.length:Int)<a)=false:=by rw[kqc];omega
 have a0:0<=a:=by omega
 clear d;go_wp2;go_ret2;exact⟨kL Q.out (by omega),kqk _ _⟩
def Gg:List Bk->Option Bk
 | []=>none
 | b::l=>if b.mark=true then some b else Gg l
def ff (l:List Bk) (k:Nat):Prop:=∀j,j<k->(gk l j).mark=false
theorem nv(l:List Bk):ff l 0:=λj h=>absurd h (by omega)
theorem nN(h:ff l k)(h2:(gk l k).mark=false):ff l (k+1):=λj hj=>by
 rcases kq6 j k with a|a
 .exact h j a
 .have:j=k:=by omega
  subst this;exact h2
theorem Dl:∀ {l:List Bk},ff l l.length->Gg l=none:=by
 intro l
 induction l with
 | nil=>intro _;rfl
 | cons b l ih =>intro h;have c:b.mark=false:=h 0 (by simp);simp only[Gg,c,kzh,if_false];exact ih λj a=>by have:=h (j+1) (by simpa using a);rwa [iT] at this
theorem GP:∀ {l:List Bk} {k:Nat},k<l.length->ff l k->(gk l k).mark=true->Gg l=some (gk l k):=by
 intro l
 induction l with
 | nil=>intro k h;simp at h
 | cons b l ih =>
  intro k c h a;cases k with
  | zero =>rw[nb] at a |-;simp[Gg,a]
  | succ k =>have d:b.mark=false:=h 0 (by omega);simp only[Gg,d,kzh,if_false];rw[iT] at a |-;exact ih (by simpa using c) (λj hj=>by have:=h (j+1) (by omega);rwa [iT] at this) a
def bj (ws:List Nat) (a:Int):Int:=if cc ws a=0 then (match Gg (aQ ws a) with | none=>6 | some _=>0) else cc ws a
def iK (ws:List Nat) (a:Int):Bk:=if cc ws a=0 then (Gg (aQ ws a)).getD mA else mA
theorem vI(h:cc ws a=r)(h0:r≠0):iK ws a=mA/\bj ws a=r:=by subst h;simp[iK,bj,h0]
theorem Aq(h:cc ws a=0)(hl:aQ ws a=l)(hn:ff l l.length):iK ws a=mA/\bj ws a=6:=by subst hl;simp[iK,bj,h,Dl hn]
theorem tE(h:cc ws a=0)(hl:aQ ws a=l)(hk:k<l.length)(hn:ff l k)(hm:(gk l k).mark=true):iK ws a=gk l k/\bj ws a=0:=by subst hl;simp[iK,bj,h,GP hk hn hm]
theorem Jy(h:cc ws a=0)(hk:k<(aQ ws a).length):(gk (aQ ws a) k).kind==1 || !(gk (aQ ws a) k).mark:=by
 unfold aQ at hk |-;rw[if_pos h] at hk |-;unfold cc at h;split at h
 .split at h
  .simp at h
  rename_i h2;have h3:=jL (by simpa using h2);cases c:blocks ws a.toNat with
  | none=>rw[c] at h;simp at h
  | some l =>
   rw[c] at hk;simp only[kq8] at hk |-;obtain⟨i,e,-,-,-,f,-⟩:=cp _ _ c (by omega) k hk;have d:=(bD _).1 (fP f);rw[bP l k hk,e];show ((aq (wd ws i)).kind==1 || !(aq (wd ws i)).mark)=true;rcases d.2 with b|b
   .simp[b.1]
   simp[b.2.2.1]
 simp at h
theorem qX(a:Int):(a.tmod 2 != 0)=(a%2 != 0):=by
 have b:a.tmod 2=0↔a%2=0:=by
  constructor
  .intro h;have:=Int.dvd_of_tmod_eq_zero h;omega
  intro h;exact Int.tmod_eq_zero_of_dvd (Int.dvd_of_emod_eq_zero h)
 rw[kzg,kqv,kqv,ne_eq,ne_eq,b]
theorem DQ(hbad:¬ (128<=a/\a<=(n:Int)/\a%2=0)):(a%2 != 0)=true/\(a.tmod 2 != 0)=true\/((a%2 != 0)=false/\(a.tmod 2 != 0)=false)/\a<128\/(a%2 != 0)=false/\128<=a/\(n:Int)<a:=by
 rw[qX];by_cases h:a%2=0
 .have:(a%2 != 0)=false:=by rw[kqr];exact h
  rw[this];by_cases b:a<128
  .exact .inr (.inl ⟨⟨rfl,rfl⟩,b⟩)
  exact .inr (.inr ⟨rfl,by omega,by omega⟩)
 have:(a%2 != 0)=true:=by rw[kqv];exact h
 rw[this];exact .inl ⟨rfl,rfl⟩
theorem ix(ws:List Nat)(a:Int):(aQ ws a).length<=4611686018427387904:=by
 unfold aQ;split
 .rename_i h;unfold cc at h;split at h
  .rename_i h1;have hb:=(aa _).1 h1;split at h
   .simp at h
   rename_i h2;have h3:=jL (by simpa using h2);cases b:blocks ws a.toNat with
   | none=>simp
   | some l =>have:=(bK (by omega) _ _ b (by omega) (by omega) (by omega)).1;simp only[kq8];omega
  simp at h
 simp
end Go.Proofs.YtpcajamacpbjcaaGreat
