/- Texts laid together: Arr Agg App Cut Img SumW FwbQ HdrW HdrX HdrY Walk From NxtP. -/
import Derived.Test.YtpcajamacpbjcaaGreatZKPlain
import Derived.Deep.MidRow
import Derived.Laws.Rows
import Derived.Laws.AppendOwnNone
import Derived.Laws.BitsAllLaws
import Derived.Laws.Shifts
import Derived.PlainAid
import Derived.Deep.RegionHeld3
import Derived.Deep.DrawnRows
set_option maxHeartbeats 16000000
set_option maxRecDepth 100000
set_option linter.all false
namespace Go.Proofs.YtpcajamacpbjcaaGreat
open Lib (hid)
open Go.RowKit
variable {ops:Array Oper}{b:Bk}{xm:Bool}{a r xa xk xt:Int}{l:List Bk}{ws xs:List Nat}{rest:List Oper}{B H g g' i k m n x xn:Nat}{o op:Oper}{dst:Option Tmp}{P:Program}{pos:String}{α:Type}{e t type:TypeId}{v:Value}{w w' w0:World}
open Go.Proofs.Tryz
theorem fE{a:Array Value}(h:Bx w g t a){cs:Array Value}(hs:cs.size=a.size):Bx (w.setCells g 0 cs.toList) g t cs:=by
 have n:∀(c:List Value) (o:Nat) (w:World) (a:Array Value),Bx w g t a->o+c.length=a.size ->
  ∃b,Bx (w.setCells g o c) g t b/\b.size=a.size/\(∀j,j<o->b[j]? = a[j]?)/\∀j,j<c.length->b[o+j]? = c[j]?:=by
  intro c
  induction c with
  | nil=>intro o w a f _;exact⟨a,f,rfl,λ_ _=>rfl,λj d=>by simp at d⟩
  | cons v c ih =>
   intro o w a f r;rw[kq3] at r;obtain⟨b,m,k,p,l⟩:=ih (o+1) _ _ (f.set_ o v) (by rw[Array.size_setIfInBounds];omega);rw[Array.size_setIfInBounds] at k;refine⟨b,m,k,λj d=>?_,λj d=>?_⟩
   .rw[p j (by omega),kj7,if_neg (by omega)]
   cases j with
   | zero=>rw[kz6,p o (by omega),kj7,if_pos rfl,if_pos (by omega)];rfl
   | succ j=>rw[show o+(j+1)=o+1+j by omega,l j (by simpa using d)];simp
 obtain⟨b,m,k,_,l⟩:=n cs.toList 0 w a h (by simpa using hs);have e:b=cs:=by
  apply Array.ext_getElem?;intro i;by_cases q:i<cs.size
  .have:=l i (by simpa using q);rw[kx5] at this;rw[this];simp
  rw[kjs (by omega),kjs (by omega)]
 rwa [e] at m
theorem cP(hg:B<=g)(vs:List Value):∀ {w a:World} {o:Nat},Below B w a->Below B w (a.setCells g o vs):=by
 induction vs with
 | nil=>intro w a o h;exact h
 | cons v vs ih=>intro w a o h;exact ih (h.setCell (p:=⟨g,o,none⟩) hg v)
theorem kk{cs:Array Value}(h:Bx w g t cs):w.there g 0 cs.size:=λj a=>by rw[kx5];exact⟨by rw[h.cell j];simp[a],h.frozen j⟩
theorem oN{i:TypeInfo}(ht:P.underlying t=some (.array n e))(he:P.info? e=some i)(hs:i.size=1)(hag:∀w,(isAgg e).run P w=.ok false w){cs:Array Value}(hk:k<n)(hv:cs[k]? = some v)(w:World):
 (Instr.index t (.agg cs) (.int .i64 (k:Int))).run P w=.ok v w:=by
 have a:(0:Int)<=(k:Int)/\(k:Int)<(n:Int):=by omega
 simp[Instr.index,asIntOf,run_underlying ht,a,sizeOf,typeInfo,he,hs,part,Sem.run_bind,hag,hv,Result.andThen];omega
theorem jL(hne:g'≠g)(vs:List Value):∀(w:World) (o:Nat),(w.setCells g o vs).heap[g']? = w.heap[g']?:=by
 induction vs with
 | nil=>intro w o;rfl
 | cons v vs ih=>intro w o;simp only[World.setCells];rw[ih];exact kkq w ⟨g,o,none⟩ v g' hne
theorem fU(vs:List Value):∀(w:World) (o:Nat),(w.setCells g o vs).heap.size=w.heap.size:=by
 induction vs with
 | nil=>intro w o;rfl
 | cons v vs ih=>intro w o;simp only[World.setCells];rw[ih,kxz]
def oo (w w':World) (g:Nat):Prop:=w'.heap.size=w.heap.size/\(∀g',g'≠g->w'.heap[g']? = w.heap[g']?)/\∀B,B<=g->Below B w w'
theorem oo.bx{cs:Array Value}(h:oo w w' g)(hb:Bx w g' t cs)(hne:g'≠g):Bx w' g' t cs:=(h.2.1 g' hne).trans hb
theorem oo.below(h:oo w w' g)(hb:Below B w0 w)(hB:B<=g):Below B w0 w':=hb.trans (h.2.2 B hB)
theorem ai{a:Act}{Q:Exit->Act->World->Prop}(hgd:op.guard=none)(ty:TypeId)(x y:Operand)(ho:op.op=.store ty x y)(g:Nat)(t:TypeId)(cs0 cs:Array Value)(hx:a.eval x=.pointer (some ⟨g,0,none⟩))(hy:a.eval y=.agg cs)(hb:Bx w g t cs0)(hs:cs.size=cs0.size)(hi:(P.info? ty).map (·.size)=some cs.size)(h1:cs.all (·.oneCell')=true)(h:∀W',Bx W' g t cs->oo w W' g->wpList P ops Q rest (a.put op.dst undef) W'):wpList P ops Q (op::rest) a w:=by
 have c:w.there g 0 cs.size:=by rw[hs];exact kk hb
 refine kkj hgd ty x y ho g 0 cs hx hy c hi h1 (h _ (fE hb hs) ⟨fU _ _ _,λg' b=>jL b _ _ _,λB d=>cP d _ (kqk _ _)⟩)
theorem bq{a:Act}{Q:Exit->Act->World->Prop}{after:Array Edge}{guard:Option (Nat × Bool)}(ty:TypeId)(x y:Operand)(h:wpList P ops Q ({ dst:=dst,op:=.store ty x y,type:=type,pos:=pos,after:=after,guard:=guard }::rest) a w):wpList P ops Q ({ dst:=dst,op:=.store ty x y,type:=type,pos:=pos,after:=after,guard:=guard }::rest) a w:=h
theorem fF{a:Act}{Q:Exit->Act->World->Prop}{after:Array Edge}{guard:Option (Nat × Bool)}(ty:TypeId)(x:Operand)(h:wpList P ops Q ({ dst:=dst,op:=.load ty x,type:=type,pos:=pos,after:=after,guard:=guard }::rest) a w):wpList P ops Q ({ dst:=dst,op:=.load ty x,type:=type,pos:=pos,after:=after,guard:=guard }::rest) a w:=h
theorem p9{a:Act}{Q:Exit->Act->World->Prop}(hgd:op.guard=none)(v:Value)(hv:(execOp a.eval op).run P w=.ok (.value v) w)(h:wpList P ops Q rest (a.put op.dst v) w):wpList P ops Q (op::rest) a w:=
 wpList_plain hgd λ_ b=>by
  unfold Oper.wp
  rw[hv]
  exact b _ _ h
theorem mW(x0 x1 x2 x3:Int)(m:Bool)(n:Int):(#[.int .i64 x0,.int .i64 x1,.int .i64 x2,.int .i64 x3,.bool m,.int .u64 n]:Array Value).all (·.oneCell')=true:=by simp[Value.oneCell']
theorem l6:(prog.info? 55).map (·.size)=some 6:=by kernel_rfl
theorem wy(w:World){a:Act}{Q:Exit->Act->World->Prop}(hgd:o.guard=none)(s x:Operand)(t:TypeId)(ho:o.op=.call { callee:=.builtin .append,args:=#[s,x],argTypes:=#[t,t] })(base:Nat)(e:TypeId)(i:TypeInfo)(z:Value)(size bytes:Nat)(ht:P.underlying t=some (.slice e))(hi:P.info? e=some i)(hz:i.zero=some z)(hsize:i.size=size)(hby:i.bytes=bytes)(hzs:z.cells.size=size)(hsz:0<size)(v:Value)(n:Nat)(xs:List Value)(hs:a.eval s=v)(hown:w.ownsRow base e size v n xs)(B:Nat)(A:Option Addr)(m c:Nat)(news:List Value)(hx:a.eval x=.slice A m c)(hc0:A=none->c=0)(hl:news.length=m*size)(hr:Rd w B A news)(f:∀u∈news,u.oneCell'=true)(h63:n+m<=maxLen)(hbytes:(n+m)*bytes<=140737488355328)(hbase:base<=w.heap.size)(h:∀d w',w'.ownsRow base e size d (n+m) (xs++news)->w.grownBy w' v.ownBlock->wpList P ops Q rest (a.put o.dst d) w'):wpList P ops Q (o::rest) a w:=by
 cases A with
 | none =>
  have E:news=[]:=by
   cases news with
   | nil=>rfl
   | cons u us =>obtain⟨b,k,f,_⟩:=hr (by simp);cases f
  subst E;have D:m=0:=by
   rcases kxy m with g|g
   .exact g
   have:=Nat.mul_pos g hsz;simp at hl;omega
  subst D;rw[hc0 rfl] at hx;exact wpList_append_own_none hgd s x t ho base e i size ht hi v n xs hs hown hx (h v w (by simpa using hown) (World.grownBy.refl w _))
 | some ad =>
  refine kq9 w hgd s x t ho base e i z size bytes ht hi hz hsize hby hzs hsz v n xs hs hown ad m c news hx hl ?_ f h63 hbytes hbase (λd w' y F _=>h d w' y F);intro j u p;have l:news≠[]:=by intro e;subst e;simp at p
  obtain⟨b,k,e,_,C⟩:=hr l;cases e;obtain⟨r,q⟩:=kzc.1 p;have:=C j r;rw[q] at this;rw[<-this];congr 1;unfold Addr.add;split
  .simp_all
  rfl
theorem fm(w:World)(base:Nat)(e:TypeId)(size:Nat)(hb:base<=w.heap.size):(w.alloc (.cells #[] e)).ownsRow base e size (.slice (some ⟨w.heap.size,0,none⟩) 0 0) 0 []:=by refine⟨by simp,.inr ⟨w.heap.size,0,#[],rfl,hb,heap_alloc_new w _,kqb _,by simp[maxLen],by simp,by simp⟩⟩
theorem cn{f:α->List Value}(h:∀x,∀u∈f x,u.oneCell'=true)(l:List α):∀u∈l.flatMap f,u.oneCell'=true:=by intro u b;obtain⟨x,_,a⟩:=List.mem_flatMap.1 b;exact h x u a
theorem Bk.one(b:Bk):∀u∈b.cells,u.oneCell'=true:=by intro u a;simp only[Bk.cells,kq0,kzs,or_false] at a;rcases a with rfl|rfl|rfl|rfl|rfl|rfl<;>rfl
theorem En.one(b:En):∀u∈b.cells,u.oneCell'=true:=by intro u a;simp only[En.cells,kq0,kzs,or_false] at a;rcases a with rfl|rfl<;>rfl
theorem lP(b:Nat):∀u∈au b,u.oneCell'=true:=by intro u a;simp only[au,kq0,kzs,or_false] at a;subst a;rfl
theorem fi(f:α->List Value)(sz:Nat)(hf:∀x,(f x).length=sz)(l:List α)(k j:Nat)(hj:j<sz)(x:α)(u:Value)(hk:∀y,l[k]? = some y->f x=(f y).set j u):
 (l.set k x).flatMap f=(l.flatMap f).set (k*sz+j) u:=by
 induction l generalizing k with
 | nil=>simp
 | cons y l ih =>
  cases k with
  | zero =>have:=hk y rfl;simp only[kqg,kz7,this,kkz,kx5];rw[List.set_append_left _ _ (by rw[hf];exact hj)]
  | succ k =>simp only[kqf,kz7];rw[ih k (λz a=>hk z (by simpa using a)),List.set_append_right _ _ (by rw[hf,kjq];omega),hf];congr 2;rw[kjq];omega
theorem kC(f:α->List Value)(sz:Nat)(hf:∀x,(f x).length=sz)(l:List α)(n:Nat):(l.take n).flatMap f=(l.flatMap f).take (n*sz):=by
 induction l generalizing n with
 | nil=>simp
 | cons x l ih =>
  cases n with
  | zero=>simp
  | succ n =>rw[kx8,kz7,kz7,ih,List.take_append,hf];rw[kzb (l:=f x) (by rw[hf,kjq];omega)];congr 2;rw[kjq];omega
theorem nF(w:World)(base:Nat)(t ty e:TypeId)(i:TypeInfo)(size:Nat)(ht:P.underlying t=some (.slice e))(hi:P.info? e=some i)(v:Value)(n:Nat)(xs:List Value)(hown:w.ownsRow base e size v n xs)(c:Nat):(Builtin.append_ #[t,t] ty #[v,.slice none 0 c]).run P w=.ok v w:=by
 rcases hown.2 with⟨rfl,rfl⟩|⟨g,cap,cur,rfl,_,_,a,_⟩
 .simp[Builtin.append_,run_underlying ht,sizeOf,typeInfo,hi,Builtin.lenOf,Builtin.firstCells]
 simp[Builtin.append_,run_underlying ht,sizeOf,typeInfo,hi,Builtin.lenOf,Builtin.firstCells,a,storeCells]
theorem fA(w:World){a:Act}{K:Act->World->Prop}{Q:Exit->Act->World->Prop}(s x:Operand)(t:TypeId)(ho:o.op=.call { callee:=.builtin .append,args:=#[s,x],argTypes:=#[t,t] })(base:Nat)(e:TypeId)(i:TypeInfo)(z:Value)(size bytes:Nat)(ht:P.underlying t=some (.slice e))(hi:P.info? e=some i)(hz:i.zero=some z)(hsize:i.size=size)(hby:i.bytes=bytes)(hzs:z.cells.size=size)(hsz:0<size)(v:Value)(n:Nat)(xs:List Value)(hs:a.eval s=v)(hown:w.ownsRow base e size v n xs)(B:Nat)(A:Option Addr)(m c:Nat)(news:List Value)(hx:a.eval x=.slice A m c)(hl:news.length=m*size)(hr:Rd w B A news)(g:∀u∈news,u.oneCell'=true)(h63:n+m<=maxLen)(hbytes:(n+m)*bytes<=140737488355328)(hbase:base<=w.heap.size)(h:∀f w',w'.ownsRow base e size f (n+m) (xs++news)->w.grownBy w' v.ownBlock->K (a.put o.dst f) w'):o.wp P a w K Q:=by
 cases A with
 | none =>
  have F:news=[]:=by
   cases news with
   | nil=>rfl
   | cons u us =>obtain⟨b,l,g,_⟩:=hr (by simp);cases g
  subst F;have E:m=0:=by
   rcases kxy m with k|k
   .exact k
   have:=Nat.mul_pos k hsz;simp at hl;omega
  subst E;have h:=h v w (by simpa using hown) (World.grownBy.refl w _);have d:=nF (P:=P) w base t o.type e i size ht hi v n xs hown c;unfold Oper.wp;simp[execOp,ho,resolve,invoke,builtin,hs,hx,d,Result.andThen];exact h
 | some ad =>
  refine wp_append_own w s x t ho base e i z size bytes ht hi hz hsize hby hzs hsz v n xs hs hown ad m c news hx hl ?_ g h63 hbytes hbase (λf w' C G _=>h f w' C G);intro j u q;have p:news≠[]:=by intro e;subst e;simp at q
  obtain⟨b,l,e,_,D⟩:=hr p;cases e;obtain⟨y,r⟩:=kzc.1 q;have:=D j y;rw[r] at this;rw[<-this];congr 1;unfold Addr.add;split
  .simp_all
  rfl
theorem aI(w:World){a:Act}{Q:Exit->Act->World->Prop}(hgd:Region.wanted o (yielded ops a.tmps)=true)(s x:Operand)(t:TypeId)(ho:o.op=.call { callee:=.builtin .append,args:=#[s,x],argTypes:=#[t,t] })(base:Nat)(e:TypeId)(i:TypeInfo)(z:Value)(size bytes:Nat)(ht:P.underlying t=some (.slice e))(hi:P.info? e=some i)(hz:i.zero=some z)(hsize:i.size=size)(hby:i.bytes=bytes)(hzs:z.cells.size=size)(hsz:0<size)(v:Value)(n:Nat)(xs:List Value)(hs:a.eval s=v)(hown:w.ownsRow base e size v n xs)(B:Nat)(A:Option Addr)(m c:Nat)(news:List Value)(hx:a.eval x=.slice A m c)(hl:news.length=m*size)(hr:Rd w B A news)(h1:∀u∈news,u.oneCell'=true)(h63:n+m<=maxLen)(hbytes:(n+m)*bytes<=140737488355328)(hbase:base<=w.heap.size)(h:∀b w',w'.ownsRow base e size b (n+m) (xs++news)->w.grownBy w' v.ownBlock->wpList P ops Q rest (a.put o.dst b) w'):wpList P ops Q (o::rest) a w:=
 wpList_step λ_ d=>by
  rw[if_pos hgd]
  exact fA w s x t ho base e i z size bytes ht hi hz hsize hby hzs hsz v n xs hs hown B A m c news hx hl hr h1 h63 hbytes hbase λb w' g f=>d _ _ (h b w' g f)
theorem kB{a b:Bool}(h:a=b):Ending.returned (.bool a)=.returned (.bool b):=by rw[h]
theorem l5{b:Int}(h:a=b):Ending.returned (.int .i64 a)=.returned (.int .i64 b):=by rw[h]
def ak (w:Int):Bool:=decide (256<=w)&&(decide (w<=2048)&&w%8==0)
theorem af(w:Int):ak w=true↔256<=w/\w<=2048/\w%8=0:=by simp[ak]
def kh (n:Nat):Int:=if ak (n:Int)=true then 0 else 8
theorem aW(h:ak (n:Int)=true):kh n=0:=by simp[kh,h]
theorem bJ(h:ak (n:Int)=false):kh n=8:=by simp[kh,h]
theorem jQ(h:kh n=0):256<=n/\n<=2048/\n%8=0:=by
 cases a:ak (n:Int) with
 | false=>rw[bJ a] at h;cases h
 | true=>have:=(af _).1 a;omega
theorem CA(n:Nat)(w:World)(hn:n<=9223372036854775807):Calls prog 135 #[.int .i64 (n:Int)] w λe w'=>e=.returned (.bool (ak (n:Int)))/\w=w':=by
 have H:Hid (∀b:Bool,(b=true↔256<=n/\n<=2048/\n%8=0)->b=ak (n:Int)):=hid λb h=>by rw[kzk,af,h];omega
 go_enter func135,ntmps135;go_wp2_with fail
 all_goals
  go_ret;exact⟨kB (H.out _ (by simp;omega)),rfl⟩
theorem aJ(A:Option Addr)(n c:Nat)(w:World)(hn:n<=9223372036854775807):Calls prog 87 #[.slice A n c] w λe w'=>e=.returned (.int .i64 (kh n))/\w=w':=by
 cases a:ak (n:Int)
 all_goals
  first
   | have b:=hid (aW a)
   | have b:=hid (bJ a)
  have d:=hid a;clear a;go_enter func87,ntmps87;go_wp2_with fail;refine (CA n w hn).mono ?_;rintro e w1 ⟨rfl,rfl⟩;rw[d.out];go_wp2;go_ret;exact⟨by rw[b.out];rfl,rfl⟩
def og (n:Nat):Bool:=(decide (400<n)&&decide (n<2040))||decide (2060<n)
theorem wO(h:og n=false):n<=400\/2040<=n/\n<=2060:=by simp only[og,kzo,kjg,kqc] at h;omega
theorem xd(A:Option Addr)(n c:Nat)(w:World)(hm:n<=9223372036854775807):
 Calls prog 12 #[.slice A n c] w λe w'=>e=.returned (.bool (og n))/\w=w':=by
 have H:Hid (∀b:Bool,(b=true↔(400<n/\n<2040)\/2060<n)->b=og n):=hid λb h=>by rw[kzk,h];simp[og]
 go_enter func12,ntmps12;go_wp2_with fail
 all_goals
  go_ret;exact⟨kB (H.out _ (by simp;omega)),rfl⟩
def bT (w k:Nat):Array Value:=((List.range 8).map λi=>Value.int .u8 (if i<k then ((iC w i:Nat):Int) else 0)).toArray
theorem bu(w k:Nat):(bT w k).size=8:=by simp[bT]
theorem ep(w k i:Nat)(h:i<8):(bT w k)[i]? = some (.int .u8 (if i<k then ((iC w i:Nat):Int) else 0)):=by simp[bT,h]
theorem mn(w k:Nat)(hk:k<8):(bT w k).setIfInBounds k (.int .u8 (iC w k:Nat))=bT w (k+1):=by
 apply Array.ext_getElem?;intro i;rw[kj7];by_cases h:i<8
 .rw[ep _ _ _ h,ep _ _ _ h];by_cases e:k=i
  .subst e;rw[if_pos rfl,if_pos (by rw[bu];exact h),if_pos (by omega)]
  rw[if_neg e];by_cases a:i<k
  .rw[if_pos a,if_pos (by omega)]
  rw[if_neg a,if_neg (by omega)]
 rw[if_neg (by omega),kjs (by rw[bu];omega),kjs (by rw[bu];omega)]
def gN:Array Value:=Array.replicate 8 (.int .u8 0)
theorem tQ(w:Nat):gN=bT w 0:=by simp[gN,bT];rfl
theorem vZ(w k:Nat):(w:Int)/2 ^ (8*k)%256=((iC w k:Nat):Int):=by rw[iC,show (256:Nat) ^ k=2 ^ (8*k) by rw[Nat.pow_mul]];rfl
theorem Dx:(prog.info? 308).map (·.size)=some 8:=by kernel_rfl
theorem js:(prog.info? 5).map (λi=>(i.zero,i.size,i.bytes))=some (some (.int .u8 0),1,1):=by kernel_rfl
theorem Ec(w:World):(isAgg 5).run prog w=.ok false w:=by kernel_rfl
theorem jM(x k:Nat):(bT x k).all (·.oneCell')=true:=by rw[Array.all_eq_true];intro i a;rw[bu] at a;have h:=ep x k i a;rw[Array.getElem?_eq_getElem (by rw[bu];exact a)] at h;injection h with h;rw[h];rfl
theorem zY(w:World):(zeroValue 308).run prog w=.ok (.agg gN) w:=by kernel_rfl
theorem Ek(x:Nat)(w:World)(hx:x<18446744073709551616):
 Calls prog 288 #[.int .u64 (x:Int)] w λe w'=>e=.returned (.agg (bT x 8))/\Below w.heap.size w w':=by
 have hzv:=zY;have hx0:(0:Int)<=(x:Int):=by omega
 clear hx;go_enter func288,ntmps288;go_wp2_with fail;go_loopw [4,5] (λi' i wr=>∃k:Nat,k<=8/\i=.int .i64 k/\Bx wr w.heap.size 308 gN/\Bx wr (w.heap.size+1) 308 (bT x k)/\Below w.heap.size w wr) (λ_ i _=>8-(intOf i).toNat)
 case atStart =>
  refine⟨0,kqx _,rfl,(Bx.new w _ _).alloc _,?_,((kqk _ _).alloc (kqb _) _).alloc (by simp) _⟩;have:=Bx.new (w.alloc (.cells gN 308)) 308 gN;rw[kqn] at this;rw[<-tQ];exact this
 obtain⟨k,hk,rfl,f,d,n⟩:=hrel;have hz:=n.size;by_cases g:k<8
 .have s:=d.cell k;rw[ep _ _ _ g] at s;have hf:=d.frozen k;have a:=hid d;have q:=hid f;have ik0:(0:Int)<=(k:Int):=by omega
  have ik1:(k:Int)<8:=by omega
  clear f d;go_wp2_with fail;rw[vZ];refine⟨⟨k+1,by omega,by go_num,q.out.far (p:=⟨w.heap.size+1,k,none⟩) (by dsimp only;omega) _,?_,n.setCell (p:=⟨w.heap.size+1,k,none⟩) (by dsimp only;omega) _⟩,by simp[intOf];omega⟩;rw[<-mn x k g];exact a.out.set_ k _
 obtain rfl:k=8:=by omega
 have m:(prog.info? 308).map (·.size)=some (bT x 8).size:=by rw[bu];exact Dx
 have l:=jM x 8;have b:=kk f;rw[show gN.size=(bT x 8).size by rw[bu];simp[gN]] at b;have j:=hid (fE f (cs:=bT x 8) (by rw[bu];simp[gN]));have a:=hid d;have h:=hid (cP (kqb _) (bT x 8).toList (o:=0) n);clear f d;obtain⟨cs,c⟩:=xq (bT x 8);have r:=hid c;rw[c] at m l b j a h;clear c;go_wp2_with (first
  | (refine kxg rfl _ _ rfl (w.heap.size+1) (by rfl) 308 cs (0,0) _ a.out underlying308 (by rfl) m ?_)
  | (refine kkj rfl _ _ _ rfl w.heap.size 0 cs (by rfl) (by rfl) b m l ?_))
 exact kqr (v:=.agg cs) (results_cell_row rfl _ _ w.heap.size _ cs (0,0) _ (by rfl) j.out underlying308 (by rfl) m) rfl ⟨by rw[r.out],h.out⟩
theorem lB(n:Nat):IntKind.u64.wrap (n:Int)=((n%18446744073709551616:Nat):Int):=by simp[IntKind.wrap,IntKind.bits,IntKind.signed]
theorem yn(s:Nat)(A:Option Addr)(l:List Nat)(c n:Nat)(w:World)(hn:l.length=n)(hm:n<=2048)(hs:s<18446744073709551616)(hr:RdW w w.heap.size A l)(ho:∀x∈l,x<18446744073709551616):
 Calls prog 264 #[.int .u64 (s:Int),.slice A n c] w λe w'=>e=.returned (.tuple #[.int .u64 (bt s l:Nat),.int .i64 0])/\Below w.heap.size w w':=by
 subst hn;have T:=hid hr;have R:=hid ho;have U:=hid hs;clear hr ho hs;obtain⟨i0,O,r,u,t⟩:=kze js;have W:=hid O;have HZ0:=hid r;have F:=hid u;have HZ2:=hid t;clear O r u t;go_enter func264,ntmps264;go_wp2_with fail;go_loopw [0,15] (λC i wr=>∃k:Nat,k<=l.length/\i=.int .i64 k/\C=.int .u64 (bt s (l.take k):Nat)/\Below w.heap.size w wr) (λ_ i _=>l.length-(intOf i).toNat)
 case atStart=>exact⟨0,kqx _,rfl,rfl,kqk _ _⟩
 obtain⟨k,hk,rfl,rfl,z⟩:=hrel;have V:=z.size;by_cases d:k<l.length
 .obtain ⟨b,H,rfl,S,E⟩:=RdW.at_ T.out d;replace E:=(z.cell (p:=⟨b,H+k,none⟩) S).trans E;have N:=hid (R.out l[k] (kqs d));have B:=hid (ly d s);obtain⟨x,K⟩:=xq (l[k]);rw[K] at E N B;have L:=hid (jq U.out (l.take k));obtain⟨q,Q⟩:=xq (bt s (l.take k));rw[Q] at B L |-;clear K Q;have ik1:(0:Int)<=(k:Int):=by omega
  have ik2:(k:Int)<(l.length:Int):=by omega
  go_wp2_with fail;refine (Ek x _ N.out).mono ?_;rintro e w1 ⟨rfl,I⟩;have G:=z.trans (I.mono V);go_wp2_with fail;go_loopw [0,21] (λC i wr=>∃j:Nat,j<=8/\i=.int .i64 j/\C=.int .u64 (yQ q x j:Nat)/\Below w.heap.size w wr) (λ_ i _=>8-(intOf i).toNat)
  case atStart=>exact⟨0,kqx _,rfl,rfl,G⟩
  obtain⟨j,hj,rfl,rfl,v⟩:=hrel;by_cases f:j<8
  .have a:=ep x 8 j f;rw[if_pos f] at a;have m:=oN (P:=prog) underlying308 W.out F.out Ec f a;have D:=qA x j;have h:=hid (r9 L.out x j);have g:Hid (yQ q x (j+1)=C4 (yQ q x j) (iC x j)):=hid rfl;obtain⟨p,J⟩:=xq (yQ q x j);obtain⟨y,M⟩:=xq (iC x j);rw[J] at h g |-;rw[M] at D m g;clear J M a;have o:=hid (u64_xor_nat p y h.out (by omega));have hxor:=o.out;go_wp2_with fail;refine⟨⟨j+1,by omega,by go_num,?_,v⟩,by simp[intOf];omega⟩;rw[g.out];unfold C4;rw[<-lB,kka];rfl
  obtain rfl:j=8:=by omega
  go_wp2;go_roundw
  case rel=>exact⟨k+1,by omega,by go_num,by rw[B.out];rfl,v⟩
  case measure=>simp[intOf];omega
 obtain rfl:k=l.length:=by omega
 rw[kzj];go_wp2;go_ret2;exact⟨rfl,z⟩
theorem rQ(A:Option Addr)(l:List Nat)(c n:Nat)(w:World)(hn:l.length=n)(hm:n<=2048)(hr:RdW w w.heap.size A l)(ho:∀x∈l,x<18446744073709551616):
 Calls prog 222 #[.slice A n c] w λe w'=>e=.returned (.tuple #[.int .u64 (bt 14695981039346656037 l:Nat),.int .i64 0])/\Below w.heap.size w w':=by have h:=hid hr;have g:=hid ho;have f:=hid hn;clear hr ho hn;go_enter func222,ntmps222;go_wp2_with fail;refine (yn 14695981039346656037 A l c n w f.out hm (by omega) h.out g.out).mono ?_;rintro e w1 ⟨rfl,a⟩;obtain⟨q,b⟩:=xq (bt 14695981039346656037 l);have d:=hid b;rw[b];clear b;go_wp2;go_ret2;exact⟨by rw[d.out];rfl,a⟩
theorem uk(s:Nat):s &&& 4294967295=s%4294967296:=by rw[show (4294967295:Nat)=2 ^ 32-1 from rfl,kjh]
theorem B8(w:World):Calls prog 224 #[.int .i64 0,.int .i64 32] w λe w'=>e=.returned (.int .u64 4294967295)/\w=w':=by go_enter func224,ntmps224;go_wp2;go_ret;exact⟨rfl,rfl⟩
theorem DR(s:Nat)(w:World)(hs:s<18446744073709551616):Calls prog 223 #[.int .u64 (s:Int),.int .i64 0,.int .i64 32] w λe w'=>e=.returned (.tuple #[.int .u64 ((s%4294967296:Nat):Int),.int .i64 0])/\w=w':=by have b:=hid (u64_and_nat s 4294967295 hs (by omega));clear hs;go_enter func223,ntmps223;go_wp2_with fail;refine (B8 w).mono ?_;rintro e w1 ⟨rfl,rfl⟩;have a:=b.out;rw[uk] at a;go_wp2;go_ret2;exact⟨by rw[<-a];rfl,rfl⟩
theorem wu(A:Option Addr)(l:List Nat)(c n:Nat)(w:World)(hn:l.length=n)(hm:n<=2048)(a:RdW w w.heap.size A l)(ho:∀x∈l,x<18446744073709551616):
 Calls prog 177 #[.slice A n c,.int .i64 32] w λe w'=>e=.returned (.tuple #[.int .u64 ((bt 14695981039346656037 l%4294967296:Nat):Int),.int .i64 0])/\Below w.heap.size w w':=by have k:=hid a;have j:=hid ho;have i:=hid hn;clear a ho hn;have h:=hid (jq (s:=14695981039346656037) (by omega) l);go_enter func177,ntmps177;go_wp2_with fail;refine (rQ A l c n w i.out hm k.out j.out).mono ?_;rintro e w1 ⟨rfl,d⟩;obtain⟨q,f⟩:=xq (bt 14695981039346656037 l);have g:=hid f;rw[f] at h |-;clear f;go_wp2_with fail;refine (DR q _ h.out).mono ?_;rintro e w2 ⟨rfl,rfl⟩;obtain⟨r,a⟩:=xq (q%4294967296);have b:=hid a;rw[a];clear a;go_wp2;go_ret2;exact⟨by rw[g.out,b.out];rfl,d⟩
theorem eJ(n:Nat):rO n=ak (n:Int):=by rw[kzk,af];simp only[rO,kqw,kzw,kqu];omega
def ag (ws:List Nat):Int:=if ak (ws.length:Int)=true then (match blocks ws 128 with | none=>50 | some l=>if l.all (dA ws)=true then 0 else 50) else 8
def aa (ws:List Nat):List Bk:=if ag ws=0 then (blocks ws 128).getD [] else []
theorem mw(h:ak (ws.length:Int)=false):ag ws=8:=by simp[ag,h]
theorem vS(h:ak (ws.length:Int)=true)(h2:blocks ws 128=none):ag ws=50:=by simp[ag,h,h2]
theorem qD(h:ak (ws.length:Int)=true)(h2:blocks ws 128=some l)(h3:l.all (dA ws)=false):ag ws=50:=by simp only[ag,h,h2,h3,if_true,kzn,if_false]
theorem fT(h:ak (ws.length:Int)=true)(h2:blocks ws 128=some l)(h3:l.all (dA ws)=true):ag ws=0/\aa ws=l:=by
 have:ag ws=0:=by simp only[ag,h,h2,h3,if_true]
 exact⟨this,by simp[aa,this,h2]⟩
theorem al(h:ag ws=0):ak (ws.length:Int)=true/\∃l,blocks ws 128=some l/\l.all (dA ws)=true/\aa ws=l:=by
 have b:=h;unfold ag at h;split at h
 .rename_i h1;refine⟨h1,?_⟩;cases a:blocks ws 128 with
  | none=>rw[a] at h;cases h
  | some l =>
   rw[a] at h;dsimp only at h;split at h
   .rename_i h2;exact⟨l,rfl,h2,by simp[aa,b,a]⟩
   cases h
 cases h
theorem Aa(ws:List Nat):ag ws=0\/ag ws=8\/ag ws=50:=by
 unfold ag;split
 .cases blocks ws 128 with
  | none=>simp
  | some l=>dsimp only;split<;>simp
 simp
def fO:List (Int × Int)->Int->Option Int
 | [],_=>none
 | m::l,a=>if m.1=a then some m.2 else fO l a
theorem EL{l:List (Int × Int)}{p:Nat}(hp:p<l.length)(h:∀q (a:q<p),(l[q]'(by omega)).1≠l[p].1):fO l l[p].1=some l[p].2:=by
 induction l generalizing p with
 | nil=>simp at hp
 | cons m l ih =>
  cases p with
  | zero=>simp[fO]
  | succ p =>simp only[fO,kqd];rw[if_neg (by simpa using h 0 (by omega))];exact ih (by simpa using hp) (λq a=>by simpa using h (q+1) (by omega))
theorem vU(h:bV l=0)(s:Int)(hmn:m<=n)(hn:n<=l.length):aD (l.take m) s<=aD (l.take n) s:=by
 obtain⟨_,c⟩:=dg h
 induction n with
 | zero =>
  have:m=0:=by omega
  subst this;exact kk8 _
 | succ n ih =>
  rcases kq6 n m with a|a
  .have:m=n+1:=by omega
   subst this;exact kk8 _
  have h4:=ih a (by omega);have b:=(eh _).1 (dK c (show n<l.length by omega)).1;rw[bo l n (by omega)] at b;rw[fX (by omega)];split<;>omega
theorem vW :∀ {s:Int},aq l s=[]->aD l s=s:=by
 induction l with
 | nil=>intro s _;rfl
 | cons b l ih =>
  intro s h;simp only[aq,aD] at h |-;split at h
  .simp at h
  rename_i hb;rw[if_neg hb];exact ih h
theorem nE(s:Int)(hmn:m<=n):(aq (l.take m) s).length<=(aq (l.take n) s).length:=by
 have:l.take n=l.take m++(l.take n).drop m:=by
  conv=>lhs;rw[<-kz2 m (l.take n),List.take_take,kjr hmn]
 rw[this,fl,kqz];omega
theorem wx(h:bV l=0){s:Int}(hs:s<=nz l):(∀p (b:p<(aq l s).length),((aq l s)[p]).2<=((aq l s)[p]).1/\fO (aq l s) ((aq l s)[p]).1=some ((aq l s)[p]).2) /\
 (∀p q (f:q<(aq l s).length) (d:p<q),((aq l s)[p]'(by omega)).2<((aq l s)[q]).2/\((aq l s)[p]'(by omega)).1<((aq l s)[q]).1)/\(∀(b:0<(aq l s).length),((aq l s)[0]).2=s):=by
 obtain⟨_,v⟩:=dg h;have e:∀p q (f:q<(aq l s).length) (d:p<q),((aq l s)[p]'(by omega)).2<((aq l s)[q]).2/\((aq l s)[p]'(by omega)).1<((aq l s)[q]).1:=by
  intro p q f d;obtain⟨k,c,i,a,o⟩:=jc (show p<(aq l s).length by omega);obtain⟨m,r,b1,g,b3⟩:=jc f;rw[kqm (by omega)] at a g;have a:=Option.some.inj a;have g:=Option.some.inj g;have j:k<m:=by
   rcases kq6 k m with n|n
   .exact n
   have:=nE (l:=l) s n;omega
  have u:=vU h s (show k+1<=m by omega) (by omega);have w:=(eh _).1 (dK v c).1;rw[bo l k c] at w;rw[fX c,if_pos i] at u;have t:=lo h r j;rw[bo l k c,bo l m r] at t;rw[a,g];exact⟨by dsimp only;omega,t⟩
 refine⟨λp b=>?_,e,λb=>?_⟩
 .refine ⟨?_,EL b (λq f=>by have:=(e q p b f).2;omega)⟩;obtain⟨k,c,i,a,o⟩:=jc b;rw[kqm b] at a;rw[Option.some.inj a];have:=rG h hs c;rw[bo l k c] at this;exact this
 obtain⟨k,c,i,a,o⟩:=jc b;rw[kqm b] at a;rw[Option.some.inj a];exact vW (kxa o)
def ed (l:List Bk):List Int:=(l.filter (·.mark)).map Bk.at_
theorem lj:∀ {l:List Bk},(∀b∈l,b.mark=true->b.kind=1)->∀s,ed l=(aq l s).map Prod.fst:=by
 intro l
 induction l with
 | nil=>intro _ s;rfl
 | cons b l d =>
  intro h s;have d:=d (λc f=>h c (by simp[f]));cases a:b.mark with
  | true =>
   have e:aA b=true:=by simp[aA,a,h b (by simp) a]
   simp only[ed,kx6,a,if_true,kx0,aq,e];congr 1;exact d (s+b.size)
  | false =>
   have e:aA b=false:=by simp[aA,a]
   simp only[ed,kx6,a,kzn,if_false,aq,e];exact d s
theorem iR(h:blocks ws i=some l)(h2:i%2=0):∀b∈l,b.mark=true->b.kind=1:=by
 intro b k g;obtain⟨m,d,rfl⟩:=kqv k;obtain⟨a,e,-,-,-,n,-⟩:=bC _ _ h h2 m d;have j:=(bj _).1 (fM n);rw[e] at g |-;have f:(ah (wd ws a)).mark=true:=g;show (ah (wd ws a)).kind=1;rcases j.2 with c|c
 .exact c.1
 rw[f] at c;exact absurd c.2.2.1 (by simp)
theorem sy{a:Bk}(h:aA a=aA b)(s:Int):br a s=br b s:=by unfold br;rw[h]
theorem rC{a:Bk}(h:aA a=aA b)(h2:a.size=b.size)(s:Int):eP a s=eP b s:=by unfold eP;rw[h,h2]
theorem nr:∀ {l:List Bk} {s:Int},aT (fwB l s) s=[]:=by
 intro l
 induction l with
 | nil=>intro s;rfl
 | cons b l ih =>
  intro s;simp only[fwB,aT];have c:aA (if b.kind=1 then { b with next:=br b s } else b)=aA b:=by split<;>rfl
  have e:(if b.kind=1 then { b with next:=br b s } else b).size=b.size:=by split<;>rfl
  have d:eP (if b.kind=1 then { b with next:=br b s } else b) s=eP b s:=rC c e s;have f:br (if b.kind=1 then { b with next:=br b s } else b) s=br b s:=sy c s;rw[d,ih,f];by_cases a:b.kind=1
  .rw[if_pos a,if_neg (λh=>h.2 rfl)];rfl
  rw[if_neg a,if_neg (λh=>a h.1)];rfl
theorem xp(hw:∀j,j<128->wd xs j=wd ws j)(hb:b.kind=1->tyA b+1<128)(s:Int):dA xs (if b.kind=1 then { b with next:=br b s } else b)=dA ws b:=by
 by_cases a:b.kind=1
 .rw[if_pos a];have h2:=hb a;unfold dA db;show (b.kind != 1||(bE (wd xs (tyA b)) (wd xs (tyA b+1))&&b.size==((aX (wd xs (tyA b)%256):Nat):Int)))=_;rw[hw _ (by omega),hw _ (by omega)]
 rw[if_neg a];have:(b.kind != 1)=true:=by rw[kqt];exact a
 simp[dA,this]
theorem Bp(hw:∀j,j<128->wd xs j=wd ws j):∀ {l:List Bk} {s:Int},(∀b∈l,b.kind=1->tyA b+1<128)->(∀b∈l,0<=b.size)->l.all (dA ws)=true->0<=s->bM xs (fwB l s) s=true/\(fwB l s).all (dA xs)=true:=by
 intro l
 induction l with
 | nil=>intro s _ _ _ _;exact⟨rfl,rfl⟩
 | cons b l ih =>
  intro s i h f hs;simp only[List.all_cons,kqw] at f;have e:=xp hw (i b (by simp)) s;have m:aA (if b.kind=1 then { b with next:=br b s } else b)=aA b:=by split<;>rfl
  have o:(if b.kind=1 then { b with next:=br b s } else b).size=b.size:=by split<;>rfl
  obtain⟨d,n⟩:=ih (s:=eP b s) (λc g=>i c (by simp[g])) (λc g=>h c (by simp[g])) f.2 (by have:=h b (by simp);unfold eP;split<;>omega);refine⟨?_,by simp only[fwB,List.all_cons,e,f.1,n,kzz]⟩;simp only[fwB,bM,e,f.1,kzz,m,o];unfold eP at d |-;cases a:aA b with
  | true =>
   have k:b.kind=1:=by simp[aA] at a;exact a.1
   simp only[a,if_true] at d |-;rw[d,Bool.and_true,if_pos k];simp only[br,a,if_true,kqu];omega
  | false =>simp only[a,kzn,if_false] at d |-;exact d
theorem nK(h:ag ws=0):∃l,blocks ws 128=some l/\aa ws=l/\d7 l 128=0/\bi (aj ws (aT l 128)) 128 128=0/\gj (aj ws (aT l 128)) 128 128=aq l 128 /\
 ag (aj ws (aT l 128))=0/\aa (aj ws (aT l 128))=fwB l 128/\aT (fwB l 128) 128=[]/\ed l=(aq l 128).map Prod.fst:=by
 obtain⟨k,l,d,w,q⟩:=al h;have o:=(af _).1 k;have g:=ja (i:=128) (by omega) d (by omega) (by omega) (by omega) (s:=128) (by omega) (by omega) (by omega);obtain⟨hre,-⟩:=cZ g;obtain⟨n,t⟩:=r7 _ ws 128 l (kqb _) d 128;have c:(aj ws (aT l 128)).length=ws.length:=aE _ _;obtain⟨y,p⟩:=Bp (xs:=aj ws (aT l 128)) (λj hj=>t j (by omega)) (l:=l) (s:=128) (iO d (by omega)) (λb o=>by
  obtain⟨m,u,rfl⟩:=kqv o;obtain⟨a,e,-⟩:=bC _ _ d (by omega) m u;rw[e,aP];omega) w (by omega)
 have f:bi (aj ws (aT l 128)) 128 128=0:=by
  rw[iA (l:=fwB l 128) (by rw[c,eJ];exact k) ?_ n,if_pos y];rw[c];cases v:gP ws.length 128 128 with
  | false=>rfl
  | true=>exact absurd (by omega) ((kw _ _ _).1 v)
 obtain⟨x,r⟩:=fT (by rw[c];exact k) n p;refine⟨l,d,q,g,f,?_,x,r,nr,lj (iR d (by omega)) 128⟩;unfold gj;rw[if_pos f];show (match blocks (aj ws (aT l 128)) 128 with|none=>[] | some l=>aq l 128)=_;rw[n];exact Bb.2.1
theorem z9 :∀i l,blocks ws i=some l->∀s,(aT l s).Pairwise (λa b=>a.a<b.a):=by
 refine dr _ (λi _ s=>List.Pairwise.nil) (λi l hi d f c s=>?_);have hsz:=ax d;simp only[aT];split
 .refine List.Pairwise.cons (λe g=>?_) (c _);have:=oT _ _ f _ e g;show (bkAt ws i).at_+1<e.a;rw[ab];omega
 exact c _
def iI (b:Bk):Int:=if iF b=true then 0 else 8
theorem iB(h:iF b=true):iI b=0:=by simp[iI,h]
theorem l8(h:iF b=false):iI b=8:=by simp[iI,h]
theorem yo{xs:Int}(h:(2<=xs/\xs%2=0)/\(xk=1/\0<=xt/\xt<8/\xs<=10\/xk=2/\xt=0/\xm=false/\xs<=1920)):(0:Int)=iI ⟨xa,xs,xk,xt,xm,xn⟩:=(iB ((bj _).2 h)).symm
theorem Af{xs:Int}(h:¬ ((2<=xs/\xs%2=0)/\(xk=1/\0<=xt/\xt<8/\xs<=10\/xk=2/\xt=0/\xm=false/\xs<=1920))):(8:Int)=iI ⟨xa,xs,xk,xt,xm,xn⟩:=
 (l8 (by
  cases a:iF ⟨xa,xs,xk,xt,xm,xn⟩ with
  | false=>rfl
  | true=>exact absurd ((bj _).1 a) h)).symm
theorem qJ(b:Bk)(w:World):Calls prog 165 #[b.val] w λe w'=>e=.returned (.int .i64 (iI b))/\Below w.heap.size w w':=by
 obtain⟨xa,xs,xk,xt,a,xn⟩:=b;unfold Bk.val;cases a
 all_goals
  go_enter func165,ntmps165;go_wp2_with fail
  all_goals
   go_ret;refine⟨?_,(kqk _ _).alloc (kqb _) _⟩;(try simp only[kqt,ne_eq,kqp,kxo,kkr,kqc,kzw] at *)
   first
    | (exfalso;omega)
    | exact l5 (yo (by simp only[reduceCtorEq,and_false,false_and,or_false,true_and];omega))
    | exact l5 (Af (by simp only[reduceCtorEq,and_false,false_and,or_false,true_and];omega))
def OfRes (b:Bk) (e:Ending):Prop:=∃a1 a2 a3 a4,e=.returned (.agg #[.int .u64 (jN b:Nat),a1,a2,a3,a4])
theorem jP{a:Nat}(ha:a<2 ^ i):a ||| x*2 ^ i=a+x*2 ^ i:=by rw[Nat.or_comm,nat_join i _ a (by simp) ha,kxs]
theorem tg{K M T S:Nat}{m:Int}(hK:K<256)(hM:M<=1)(hT:T<128)(hS:S<65536)(hm:m=((M*256:Nat):Int)):
 bits BinOp.or .u64 (bits BinOp.or .u64 (bits BinOp.or .u64 (K:Int) m) ((T:Int)*512)) ((S:Int)*65536)=((K+M*256+T*512+S*65536:Nat):Int):=by
 subst hm;have a:=u64_or_nat K (M*256) (by omega) (by omega);have f:K ||| M*256=K+M*256:=by rw[show M*256=M*2 ^ 8 from rfl,jP hK]
 rw[f] at a;rw[a];have c:=u64_or_nat (K+M*256) (T*512) (by omega) (by omega);have e:K+M*256 ||| T*512=K+M*256+T*512:=by rw[show T*512=T*2 ^ 9 from rfl,jP (by omega)]
 rw[e] at c;rw[show ((T:Int)*512)=((T*512:Nat):Int) by simp,c];have b:=u64_or_nat (K+M*256+T*512) (S*65536) (by omega) (by omega);have d:K+M*256+T*512 ||| S*65536=K+M*256+T*512+S*65536:=by rw[show S*65536=S*2 ^ 16 from rfl,jP (by omega)]
 rw[d] at b;rw[show ((S:Int)*65536)=((S*65536:Nat):Int) by simp,b]
theorem o9(w:World)(cs:List Value)(t:TypeId):Rd (w.alloc (.cells cs.toArray t)) (w.heap.size+1) (some ⟨w.heap.size,0,none⟩) cs:=λ_ =>
 ⟨w.heap.size,0,rfl,by omega,λj a=>by
  have:=(Bx.new w t cs.toArray).cell j
  rw[kx5,this]
  simp[a]⟩
theorem hdOf_c(b:Bk)(w:World)(hb:iF b=true):Calls prog 166 #[b.val] w λe w'=>OfRes b e/\Below w.heap.size w w':=by
 obtain⟨d,c,a,h,i,g,h7⟩:=pp hb;clear hb;obtain⟨xa,xs,xk,xt,f,xn⟩:=b;dsimp only at *;obtain⟨K,rfl⟩:=kq2 h;obtain⟨T,rfl⟩:=kq2 i;obtain⟨S,rfl⟩:=kq2 g;simp only[kqj] at d c a;unfold Bk.val;cases f
 all_goals
  go_enter func166,ntmps166;go_wp2_with fail
 .refine kqr (v:=.agg #[.int .u64 (bits BinOp.or .u64 (bits BinOp.or .u64 (bits BinOp.or .u64 (K:Int) 0) ((T:Int)*512)) ((S:Int)*65536)),.int .u64 (K:Int),.int .u64 (T:Int),.int .u64 (S:Int),.int .u64 0]) (by simp[results,results166,go_sem]) rfl ⟨?_,?_⟩
  .refine ⟨.int .u64 (K:Int),.int .u64 (T:Int),.int .u64 (S:Int),.int .u64 0,?_⟩;rw[tg (M:=0) d (by omega) c a (by simp)];rfl
  exact (((kqk _ _).alloc (kqb _) _).alloc (by simp) _).alloc (by simp;omega) _
 refine kqr (v:=.agg #[.int .u64 (bits BinOp.or .u64 (bits BinOp.or .u64 (bits BinOp.or .u64 (K:Int) 256) ((T:Int)*512)) ((S:Int)*65536)),.int .u64 (K:Int),.int .u64 (T:Int),.int .u64 (S:Int),.int .u64 1]) (by simp[results,results166,go_sem]) rfl ⟨?_,?_⟩
 .refine ⟨.int .u64 (K:Int),.int .u64 (T:Int),.int .u64 (S:Int),.int .u64 1,?_⟩;rw[tg (M:=1) d (by omega) c a (by simp)];rfl
 exact (((kqk _ _).alloc (kqb _) _).alloc (by simp) _).alloc (by simp;omega) _
theorem or32{t:Nat}(hx:x<4294967296)(ht:t<4294967296):bits BinOp.or .u64 (x:Int) ((t:Int)*4294967296)=((x+t*4294967296:Nat):Int):=by have h:=u64_or_nat x (t*4294967296) (by omega) (by omega);rw[show t*4294967296=t*2 ^ 32 from rfl,jP (i:=32) (by omega)] at h;rw[<-h];simp
theorem BH(x:Nat)(w:World)(hx:x<4294967296):Calls prog 167 #[.int .u64 (x:Int)] w λe w'=>e=.returned (.tuple #[.int .u64 ((x+iH x%4294967296*4294967296:Nat):Int),.int .i64 0])/\Below w.heap.size w w':=by
 have b:iH x%4294967296<4294967296:=kz1 _ (by omega);have d:=hid (or32 hx b);have k:=hid hx;have hx0:(0:Int)<=(x:Int):=by omega
 have i:Hid (bt 14695981039346656037 [x]=iH x):=hid rfl;clear hx;go_enter func167,ntmps167;go_wp2_with fail;have c:=o9 w [.int .u64 (x:Int)] 53;refine (wu _ [x] _ 1 _ rfl (by omega) (by rw[kqn];exact c) (by intro y h;simp at h;subst h;have:=k.out;omega)).mono ?_;rintro e w1 ⟨rfl,a⟩;rw[kqn] at a;have f:=ao a;rw[i.out];obtain⟨t,g⟩:=xq (iH x%4294967296);have j:=hid g;rw[g] at b d |-;clear g a c;go_wp2;go_ret2;exact⟨by rw[j.out,<-d.out];rfl,f⟩
def iJ (b:Bk):Nat:=if iF b=true then cC b else 0
theorem pO(b:Bk)(w:World):Calls prog 105 #[b.val] w λe w'=>e=.returned (.tuple #[.int .u64 (iJ b:Nat),.int .i64 (iI b)])/\Below w.heap.size w w':=by
 cases c:iF b
 .have i:=hid (show iJ b=0 by simp[iJ,c]);have f:=hid (l8 c);have d:=hid (λW=>qJ b W);clear c;obtain⟨r,xs,B,s,v,A⟩:=b;unfold Bk.val at d |-;dsimp only at d |-;go_enter func105,ntmps105;go_wp2_with fail;refine (d.out _).mono ?_;rintro e x ⟨rfl,a⟩;rw[kqn] at a;rw[f.out];go_wp2;go_ret2;exact⟨by rw[i.out,f.out];rfl,ao a⟩
 have i:=hid (show iJ b=jN b+iH (jN b)%4294967296*4294967296 by simp[iJ,c,cC]);have f:=hid (iB c);have d:=hid (λW=>qJ b W);have k:=hid (λW=>hdOf_c b W c);have p:=hid (t9 c);clear c;obtain⟨q,n⟩:=xq (jN b);have u:=hid n;rw[n] at i p;clear n;obtain⟨r,xs,B,s,v,A⟩:=b;unfold Bk.val at d k |-;dsimp only at d k |-;go_enter func105,ntmps105;go_wp2_with fail;refine (d.out _).mono ?_;rintro e x ⟨rfl,a⟩;rw[kqn] at a;have h:=ao a;have o:=Bx.of_new a;obtain⟨c0,c1,c2,c3,c4,c5,-,hz⟩:=o.c6;rw[f.out];clear o a;go_wp2_with fail;refine (k.out _).mono ?_;rintro e w2 ⟨⟨t,y,C,z,rfl⟩,l⟩;have g:=h.trans (l.mono h.size);rw[u.out];have hfld:∀W,(Instr.field 231 (.agg #[.int .u64 (q:Int),t,y,C,z]) 0).run prog W=.ok (.int .u64 (q:Int)) W:=λ_=>by kernel_rfl
 go_wp2_with fail;refine (BH q _ p.out).mono ?_;rintro e w3 ⟨rfl,m⟩;have j:=g.trans (m.mono g.size);rw[<-i.out];go_wp2;go_ret2;exact⟨by rw[f.out];rfl,j⟩
def lG:Bk:=⟨0,0,0,0,false,0⟩
def ze (w:Nat):Bk:=if ay w=true then ah w else lG
def mt (w:Nat):Int:=if ay w=true then 0 else 50
theorem kr{w:Nat}(h:ay w=true):ze w=ah w/\mt w=0:=by simp[ze,mt,h]
theorem lx{w:Nat}(h:ay w=false):ze w=lG/\mt w=50:=by simp[ze,mt,h]
theorem r8(hx:x<18446744073709551616)(hm:m=2 ^ k-1)(hk:m<18446744073709551616):bits BinOp.and .u64 (x:Int) (m:Int)=((x%2 ^ k:Nat):Int):=by rw[u64_and_nat x m hx hk,hm,kjh]
theorem sq(w:Nat)(hw:w<18446744073709551616):bits BinOp.and .u64 (w:Int) 255=((w%256:Nat):Int)/\bits BinOp.and .u64 ((w:Int)/256) 1=((w/256%2:Nat):Int)/\bits BinOp.and .u64 ((w:Int)/512) 127=((w/512%128:Nat):Int)/\bits BinOp.and .u64 ((w:Int)/65536) 65535=((w/65536%65536:Nat):Int):=
 ⟨r8 (k:=8) (m:=255) hw (by decide) (by omega),r8 (x:=w/256) (k:=1) (m:=1) (by omega) (by decide) (by omega),r8 (x:=w/512) (k:=7) (m:=127) (by omega) (by decide) (by omega),r8 (x:=w/65536) (k:=16) (m:=65535) (by omega) (by decide) (by omega)⟩
theorem aS{fn:Func}{p q:Tmp}(h:fn.results=#[.cell p 55,.tmp q])(tmps:Array Value){W:World}{v0 v1 v2 v3 v4 v5 u:Value}(hb:Bx W g t #[v0,v1,v2,v3,v4,v5])(hp:tmps.getD p undef=.pointer (some ⟨g,0,none⟩))(hq:tmps.getD q undef=u):
 (results fn tmps).run prog W=.ok (.tuple #[.agg #[v0,v1,v2,v3,v4,v5],u]) W:=by obtain⟨c,b,a,d,f,e,-,-⟩:=hb.c6;rw[kxl] at hp hq;simp[results,h,hp,hq,go_sem,c,b,a,d,f,e]
theorem mQ(x:Nat)(w:World)(hx:x<18446744073709551616):Calls prog 172 #[.int .u64 (x:Int)] w λe w'=>e=.returned (.tuple #[(ze x).val,.int .i64 (mt x)])/\Below w.heap.size w w':=by
 obtain⟨J,X,L,e4⟩:=sq x hx;have l:=hid (λW=>pO (ah x) W);have A:Hid (iI (ah x)=0->iJ (ah x)=x->ze x=ah x/\mt x=0):=hid λh1 Y=>kr (by
  have O:iF (ah x)=true:=by
   cases r:iF (ah x) with
   | true=>rfl
   | false=>rw[l8 r] at h1;cases h1
  simp only[iJ,O,if_true] at Y;simp[ay,O,Y])
 have m:Hid (iI (ah x)≠0\/iJ (ah x)≠x->ze x=lG/\mt x=50):=hid λh=>lx (by
  cases r:iF (ah x) with
  | false=>simp[ay,r]
  | true =>
   rcases h with h|h
   .exact absurd (iB r) h
   simp only[iJ,r,if_true] at h;simp[ay,r,h])
 have hx0:(0:Int)<=(x:Int):=by omega
 have g:(ah x).val=.agg #[.int .i64 0,.int .i64 ((x/65536%65536:Nat):Int),.int .i64 ((x%256:Nat):Int),.int .i64 ((x/512%128:Nat):Int),.bool (x/256%2==1),.int .u64 0]:=rfl;have m1:x%256<256:=kz1 _ (by omega);have N:x/256%2<2:=kz1 _ (by omega);have m3:x/512%128<128:=kz1 _ (by omega);have I:x/65536%65536<65536:=kz1 _ (by omega);rw[g] at l;have a:=hid g;have d:((((x/256%2:Nat):Int))==1)=(x/256%2==1):=by rw[kzk,kqu,kqu];omega
 obtain⟨K,U⟩:=xq (x%256);obtain⟨M,Z⟩:=xq (x/256%2);obtain⟨T,Q⟩:=xq (x/512%128);obtain⟨S,P⟩:=xq (x/65536%65536);rw[U] at J m1 l a;rw[Z] at X N d l a;rw[Q] at L m3 l a;rw[P] at e4 I l a;obtain⟨s,t⟩:=xq ((M==1));rw[t] at d l a;obtain⟨V,o⟩:=xq (iJ (ah x));obtain⟨R,c⟩:=xq (iI (ah x));rw[o,c] at A m l;clear hx g U Z Q P t o c;go_enter func172,ntmps172;go_wp2_with fail;have D:=(Bx.new w 55 #[.int .i64 0,.int .i64 0,.int .i64 0,.int .i64 0,.bool false,.int .u64 0]).alloc (.cells #[.int .i64 0,.int .i64 (S:Int),.int .i64 (K:Int),.int .i64 (T:Int),.bool s,.int .u64 0] 55);have E:=Bx.new (w.alloc (.cells #[.int .i64 0,.int .i64 0,.int .i64 0,.int .i64 0,.bool false,.int .u64 0] 55)) 55 #[.int .i64 0,.int .i64 (S:Int),.int .i64 (K:Int),.int .i64 (T:Int),.bool s,.int .u64 0];have i:Below w.heap.size w ((w.alloc (.cells #[.int .i64 0,.int .i64 0,.int .i64 0,.int .i64 0,.bool false,.int .u64 0] 55)).alloc (.cells #[.int .i64 0,.int .i64 (S:Int),.int .i64 (K:Int),.int .i64 (T:Int),.bool s,.int .u64 0] 55)):=((kqk _ _).alloc (kqb _) _).alloc (by simp) _;have z:((w.alloc (.cells #[.int .i64 0,.int .i64 0,.int .i64 0,.int .i64 0,.bool false,.int .u64 0] 55)).alloc (.cells #[.int .i64 0,.int .i64 (S:Int),.int .i64 (K:Int),.int .i64 (T:Int),.bool s,.int .u64 0] 55)).heap.size=w.heap.size+2:=by simp
 rw[kqn] at E;obtain⟨H,B⟩:∃H,(w.alloc (.cells #[.int .i64 0,.int .i64 0,.int .i64 0,.int .i64 0,.bool false,.int .u64 0] 55)).alloc (.cells #[.int .i64 0,.int .i64 (S:Int),.int .i64 (K:Int),.int .i64 (T:Int),.bool s,.int .u64 0] 55)=H:=⟨_,rfl⟩;rw[B] at D E i z |-;clear B;refine (l.out H).mono ?_;rintro e w1 ⟨rfl,f⟩;have q:=i.trans (f.mono i.size);obtain⟨c0,c1,c2,c3,c4,c5,n,cz⟩:=(D.up f (by omega)).c6;obtain⟨d0,d1,d2,d3,d4,d5,df,dz⟩:=(E.up f (by omega)).c6;have cf0:=n 0;have cf1:=n 1;have cf2:=n 2;have cf3:=n 3;have cf4:=n 4;have cf5:=n 5;have G:=hid (D.up f (by omega));clear D E f i z n df J X L e4 d m1 N m3 I;by_cases c:R=0
 .by_cases o:V=x
  .obtain ⟨k,j⟩:=A.out c o;have y:=hid k;have C:=hid j;have u:(R != 0)=false:=by rw[kqp];exact c
   have F:((V:Int) != (x:Int))=false:=by rw[kqp];omega
   clear c o k j;go_wp2_with fail;refine kqr (v:=.tuple #[.agg #[.int .i64 0,.int .i64 (S:Int),.int .i64 (K:Int),.int .i64 (T:Int),.bool s,.int .u64 0],.int .i64 0]) (aS results172 _ ((((((G.out.set_ 0 _).set_ 1 _).set_ 2 _).set_ 3 _).set_ 4 _).set_ 5 _) rfl rfl) rfl ⟨by rw[y.out,C.out,a.out],?_⟩;exact (kq5 (p:=⟨w.heap.size,5,none⟩) (kq5 (p:=⟨w.heap.size,4,none⟩) (kq5 (p:=⟨w.heap.size,3,none⟩) (kq5 (p:=⟨w.heap.size,2,none⟩) (kq5 (p:=⟨w.heap.size,1,none⟩) (kq5 (p:=⟨w.heap.size,0,none⟩) q (kqb _) _) (kqb _) _) (kqb _) _) (kqb _) _) (kqb _) _) (kqb _) _)
  obtain⟨k,j⟩:=m.out (.inr o);have y:=hid k;have C:=hid j;have u:(R != 0)=false:=by rw[kqp];exact c
  have F:((V:Int) != (x:Int))=true:=by rw[kqt];omega
  clear c o k j;go_wp2_with fail;refine kqr (v:=.tuple #[.agg #[.int .i64 0,.int .i64 0,.int .i64 0,.int .i64 0,.bool false,.int .u64 0],.int .i64 50]) (aS results172 _ ((((((G.out.set_ 0 _).set_ 1 _).set_ 2 _).set_ 3 _).set_ 4 _).set_ 5 _) rfl rfl) rfl ⟨by rw[y.out,C.out];rfl,?_⟩;exact (kq5 (p:=⟨w.heap.size,5,none⟩) (kq5 (p:=⟨w.heap.size,4,none⟩) (kq5 (p:=⟨w.heap.size,3,none⟩) (kq5 (p:=⟨w.heap.size,2,none⟩) (kq5 (p:=⟨w.heap.size,1,none⟩) (kq5 (p:=⟨w.heap.size,0,none⟩) q (kqb _) _) (kqb _) _) (kqb _) _) (kqb _) _) (kqb _) _) (kqb _) _)
 obtain⟨k,j⟩:=m.out (.inl c);have y:=hid k;have C:=hid j;have u:(R != 0)=true:=by rw[kqt];exact c
 clear c k j;go_wp2_with fail;refine kqr (v:=.tuple #[.agg #[.int .i64 0,.int .i64 0,.int .i64 0,.int .i64 0,.bool false,.int .u64 0],.int .i64 50]) (aS results172 _ ((((((G.out.set_ 0 _).set_ 1 _).set_ 2 _).set_ 3 _).set_ 4 _).set_ 5 _) rfl rfl) rfl ⟨by rw[y.out,C.out];rfl,?_⟩;exact (kq5 (p:=⟨w.heap.size,5,none⟩) (kq5 (p:=⟨w.heap.size,4,none⟩) (kq5 (p:=⟨w.heap.size,3,none⟩) (kq5 (p:=⟨w.heap.size,2,none⟩) (kq5 (p:=⟨w.heap.size,1,none⟩) (kq5 (p:=⟨w.heap.size,0,none⟩) q (kqb _) _) (kqb _) _) (kqb _) _) (kqb _) _) (kqb _) _) (kqb _) _)
def stB (ws:List Nat) (a:Nat):Bk:=if stands ws a=true then bkAt ws a else lG
def sh (ws:List Nat) (a:Nat):Int:=if stands ws a=true then 0 else 50
theorem wv{a:Nat}(h:stands ws a=true):stB ws a=bkAt ws a/\sh ws a=0:=by simp[stB,sh,h]
theorem y6{a:Nat}(h:stands ws a=false):stB ws a=lG/\sh ws a=50:=by simp[stB,sh,h]
theorem bI(h:i<ws.length):wd ws i=ws[i]:=by simp[wd,h]
theorem eX(ho:∀x∈ws,x<18446744073709551616)(i:Nat):wd ws i<18446744073709551616:=by
 by_cases h:i<ws.length
 .rw[bI h];exact ho _ (kqs h)
 simp[wd,h]
theorem lC{x0 x1 x2 x3 x4 x5:Value}(h:Bx w g t #[x0,x1,x2,x3,x4,x5])(u0 u1 u2 u3 u4 u5:Value):
 Bx ((((((w.setCell ⟨g,0,none⟩ u0).setCell ⟨g,1,none⟩ u1).setCell ⟨g,2,none⟩ u2).setCell ⟨g,3,none⟩ u3).setCell ⟨g,4,none⟩ u4).setCell ⟨g,5,none⟩ u5) g t #[u0,u1,u2,u3,u4,u5]:=
 (((((h.set_ 0 u0).set_ 1 u1).set_ 2 u2).set_ 3 u3).set_ 4 u4).set_ 5 u5
theorem ft(h:Below B w0 w)(hg:B<=g)(u0 u1 u2 u3 u4 u5:Value):
 Below B w0 ((((((w.setCell ⟨g,0,none⟩ u0).setCell ⟨g,1,none⟩ u1).setCell ⟨g,2,none⟩ u2).setCell ⟨g,3,none⟩ u3).setCell ⟨g,4,none⟩ u4).setCell ⟨g,5,none⟩ u5):=
 (((((h.setCell (p:=⟨g,0,none⟩) hg u0).setCell (p:=⟨g,1,none⟩) hg u1).setCell (p:=⟨g,2,none⟩) hg u2).setCell (p:=⟨g,3,none⟩) hg u3).setCell (p:=⟨g,4,none⟩) hg u4).setCell (p:=⟨g,5,none⟩) hg u5
theorem mg(A:Option Addr)(ws:List Nat)(c n a:Nat)(w:World)(hn:ws.length=n)(hm:n<=1000000)(ha:a+1<n)(hr:RdW w w.heap.size A ws)(ho:∀x∈ws,x<18446744073709551616):
 Calls prog 112 #[.slice A n c,.int .i64 (a:Int)] w λe w'=>e=.returned (.tuple #[(stB ws a).val,.int .i64 (sh ws a)])/\Below w.heap.size w w':=by
 subst hn;have HR:=hid hr;have s:=eX ho a;have g:=hid (λW=>mQ (wd ws a) W s);obtain⟨b,r,rfl,hb,Z⟩:=RdW.at_ hr (show a<ws.length by omega);obtain⟨b',off',e',-,V⟩:=RdW.at_ hr ha;cases e';rw[<-bI] at Z V;have ik0:(0:Int)<=(a:Int):=by omega
 have ik1:(a:Int)<(ws.length:Int):=by omega
 have ik2:(a:Int)+1<(ws.length:Int):=by omega
 have ik3:(0:Int)<=(a:Int)+1:=by omega
 have htn:((a:Int)+1).toNat=a+1:=by omega
 have k:(ah (wd ws a)).val=.agg #[.int .i64 0,.int .i64 ((szAt ws a:Nat):Int),.int .i64 ((wd ws a%256:Nat):Int),.int .i64 ((wd ws a/512%128:Nat):Int),.bool (wd ws a/256%2==1),.int .u64 0]:=rfl;have o:(bkAt ws a).val=.agg #[.int .i64 (a:Int),.int .i64 ((szAt ws a:Nat):Int),.int .i64 ((wd ws a%256:Nat):Int),.int .i64 ((wd ws a/512%128:Nat):Int),.bool (wd ws a/256%2==1),.int .u64 ((wd ws (a+1):Nat):Int)]:=rfl;have Eq:szAt ws a<65536:=kz1 _ (by omega);have i:Hid (stands ws a=(ay (wd ws a)&&decide ((szAt ws a:Int)<=(ws.length:Int)-a))):=hid rfl;have P:Hid (stands ws a=false->stB ws a=lG/\sh ws a=50):=hid y6;have Y:Hid (stands ws a=true->stB ws a=bkAt ws a/\sh ws a=0):=hid wv;cases t:ay (wd ws a)
 .obtain ⟨m,l⟩:=P.out (by rw[i.out,t];rfl);obtain⟨N,G⟩:=lx t;rw[N,G] at g;have C:=hid m;have O:=hid l;clear hr k o t m l N G s;unfold Bk.val lG at g;dsimp only at g;obtain⟨x,s⟩:=xq (wd ws a);rw[s] at Z g;clear s;go_enter func112,ntmps112;go_wp2_with fail;refine (g.out _).mono ?_;rintro e Q ⟨rfl,d⟩;rw[kqn] at d;have j:=Bx.of_new d;have h:=ao d;have B:=hid j;obtain⟨c0,c1,c2,c3,c4,c5,f,cz⟩:=j.c6;have H:=f 0;have E:=f 1;have u:=f 2;have F:=f 3;have z:=f 4;have L:=f 5;clear j f d;go_wp2_with fail;refine kqr (v:=.tuple #[.agg #[.int .i64 0,.int .i64 0,.int .i64 0,.int .i64 0,.bool false,.int .u64 0],.int .i64 50]) (aS results112 _ ((lC B.out _ _ _ _ _ _).alloc _) rfl rfl) rfl ⟨by rw[C.out,O.out];rfl,(ft h (kqb _) _ _ _ _ _ _).alloc (by simp;have:=h.size;omega) _⟩
 obtain⟨N,G⟩:=kr t;rw[N,G,k] at g;have q:=hid o;obtain⟨S,R⟩:=xq (szAt ws a);obtain⟨K,hK⟩:=xq (wd ws a%256);obtain⟨T,hT⟩:=xq (wd ws a/512%128);obtain⟨M,hM⟩:=xq ((wd ws a/256%2==1));rw[R,hK,hT,hM] at g q;rw[R] at Eq i;rw[t,kzz] at i;obtain⟨x,D⟩:=xq (wd ws a);obtain⟨y,I⟩:=xq (wd ws (a+1));rw[D] at Z g;rw[I] at V q;clear hr k o t N G s R hK hT hM D I;by_cases J:(ws.length:Int)-a<S
 .obtain ⟨m,l⟩:=P.out (by rw[i.out,kqc];omega);have C:=hid m;have O:=hid l;clear m l;go_enter func112,ntmps112;go_wp2_with fail;refine (g.out _).mono ?_;rintro e Q ⟨rfl,d⟩;rw[kqn] at d;have j:=Bx.of_new d;have h:=ao d;have B:=hid j;obtain⟨c0,c1,c2,c3,c4,c5,f,cz⟩:=j.c6;have H:=f 0;have E:=f 1;have u:=f 2;have F:=f 3;have z:=f 4;have L:=f 5;clear j f d;go_wp2_with fail;refine kqr (v:=.tuple #[.agg #[.int .i64 0,.int .i64 0,.int .i64 0,.int .i64 0,.bool false,.int .u64 0],.int .i64 50]) (aS results112 _ ((lC B.out _ _ _ _ _ _).alloc _) rfl rfl) rfl ⟨by rw[C.out,O.out];rfl,(ft h (kqb _) _ _ _ _ _ _).alloc (by simp;have:=h.size;omega) _⟩
 obtain⟨m,l⟩:=Y.out (by rw[i.out,kql];omega);have C:=hid m;have O:=hid l;have hle:(S:Int)<=(ws.length:Int)-a:=by omega
 clear m l J;go_enter func112,ntmps112;go_wp2_with fail;refine (g.out _).mono ?_;rintro e Q ⟨rfl,d⟩;rw[kqn] at d;have j:=Bx.of_new d;have h:=ao d;have B:=hid j;obtain⟨c0,c1,c2,c3,c4,c5,f,cz⟩:=j.c6;have H:=f 0;have E:=f 1;have u:=f 2;have F:=f 3;have z:=f 4;have L:=f 5;clear j f d;have hbw:b<Q.heap.size:=by have:=h.size;omega
 have U:=(h.cell (p:=⟨b,r+(a+1),none⟩) hb).trans V;have hwr:IntKind.i64.wrap ((a:Int)+1)=(a:Int)+1:=kqo _ (by omega);go_wp2_with fail;have hne:=World.new_ne Q ⟨b,r+(a+1),none⟩ U
 go_region_held3 (λX:World=>X.cell? ⟨b,r+(a+1),none⟩=some (.int .u64 (y:Int))) (go_keep) (fail)
 all_goals
  go_wp2_with fail;refine kqr (v:=.tuple #[.agg #[.int .i64 (a:Int),.int .i64 (S:Int),.int .i64 (K:Int),.int .i64 (T:Int),.bool M,.int .u64 (y:Int)],.int .i64 0]) (aS results112 _ (show Bx (World.drew _) _ _ _ from (lC B.out _ _ _ _ _ _).alloc _) rfl rfl) rfl ⟨by rw[C.out,O.out,q.out],((ft h (kqb _) _ _ _ _ _ _).alloc (by simp;have:=h.size;omega) _).drew⟩
def eB (n:Nat) (a:Int):Bool:=decide (a<128)||(decide ((n:Int)<a)||a%2 != 0)
def co (ws:List Nat) (a:Int):Int:=if ak (ws.length:Int)=true then (if eB ws.length a=true then 2 else (match blocks ws a.toNat with | none=>50 | some _=>0)) else 8
def aU (ws:List Nat) (a:Int):List Bk:=if co ws a=0 then (blocks ws a.toNat).getD [] else []
def pm (ws:List Nat) (a:Int) (e:Ending) (w':World):Prop:=∃A c,e=.returned (.tuple #[.slice A (aU ws a).length c,.int .i64 (co ws a)])/\RdB w' w'.heap.size A (aU ws a)/\(aU ws a).length<=c
theorem fp(h:ak (ws.length:Int)=false):co ws a=8:=by simp[co,h]
theorem iL(h:ak (ws.length:Int)=true)(h2:eB ws.length a=true):co ws a=2:=by simp[co,h,h2]
theorem eN(h:ak (ws.length:Int)=true)(h2:eB ws.length a=false)(h3:blocks ws a.toNat=none):co ws a=50:=by simp[co,h,h2,h3]
theorem ci(h:ak (ws.length:Int)=true)(h2:eB ws.length a=false)(h3:blocks ws a.toNat=some l):co ws a=0/\aU ws a=l:=by
 have:co ws a=0:=by simp[co,h,h2,h3]
 exact⟨this,by simp[aU,this,h3]⟩
theorem lY(h:eB n a=false):128<=a/\a<=(n:Int)/\a%2=0:=by simp only[eB,kzo,kqc,kqp] at h;omega
theorem mK(h:¬ (128<=a/\a<=(n:Int)/\a%2=0)):eB n a=true:=by
 cases b:eB n a with
 | true=>rfl
 | false=>exact absurd (lY b) h
theorem kt(hr:co ws a=r)(h0:r≠0):pm ws a (.returned (.tuple #[.slice none 0 0,.int .i64 r])) w':=by
 subst hr;have:aU ws a=[]:=by simp[aU,h0]
 exact⟨none,0,by rw[this];rfl,by rw[this];exact Rd.nil_,by rw[this];simp⟩
theorem xI(h0:co ws a=0)(hl:aU ws a=l)(h:w'.ownsRow H 55 6 v l.length (l.flatMap Bk.cells)):pm ws a (.returned (.tuple #[v,.int .i64 0])) w':=by
 have e:∃A c,v=.slice A l.length c/\l.length<=c:=by
  rcases h.2 with⟨rfl,d⟩|⟨g,cap,cur,rfl,_,_,b,_⟩
  .exact ⟨none,0,by rw[d],by omega⟩
  exact⟨_,_,rfl,b⟩
 obtain⟨A,c,rfl,b⟩:=e;exact⟨A,c,by rw[hl,h0],by rw[hl];exact Rd.of_own h,by rw[hl];exact b⟩
theorem kp:(prog.info? 55).map (λi=>(i.zero,i.size,i.bytes))=some (some (.agg #[.int .i64 0,.int .i64 0,.int .i64 0,.int .i64 0,.bool false,.int .u64 0]),6,48):=by kernel_rfl
theorem pG{sz:Nat}{xs:List Value}(hown:w.ownsRow H e sz v n xs):some w.heap.size≠v.ownBlock:=λh=>by have:=(hown.lt _ h.symm).2;omega
theorem kX(w:World)(cs:List Value)(t:TypeId)(h:w.heap.size=H):∀j u,cs[j]? = some u->(w.alloc (.cells cs.toArray t)).cell? ((⟨H,0,none⟩:Addr).add j)=some u:=by subst h;exact bn w cs t
theorem lz(A:Option Addr)(ws:List Nat)(c n:Nat)(a:Int)(w:World)(hn:ws.length=n)(hm:n<=9223372036854775807)(hr:RdW w w.heap.size A ws)(ho:∀x∈ws,x<18446744073709551616):
 Calls prog 65 #[.slice A n c,.int .i64 a] w λe w'=>pm ws a e w'/\Below w.heap.size w w':=by
 subst hn;have HR:=hid hr;have HO:=hid ho;clear hr ho;cases u:ak (ws.length:Int)
 .have X:=hid (bJ u);have G:=hid (fp (a:=a) u);clear u;go_enter func65,ntmps65;go_wp2_with fail;refine (aJ A ws.length c w hm).mono ?_;rintro e B ⟨rfl,rfl⟩;rw[X.out];go_wp2;go_ret2;exact⟨kt G.out (by omega),kqk _ _⟩
 have X:=hid (aW u);have HS:=hid u;have hb:=jQ (aW u);obtain⟨h,hb2,Q⟩:=hb;have Fq:=hid Q;clear u hm Q;by_cases d:128<=a/\a<=(ws.length:Int)/\a%2=0
 .obtain ⟨a1,a2,a3⟩:=d;have N:Hid (eB ws.length a=false):=hid (by
   simp only[eB,kzo,kqc,kqp];omega)
  have Fp:(a%2 != 0)=false:=by rw[kqp];exact a3
  have d1:decide (a<128)=false:=by rw[kqc];omega
  have d2:decide ((ws.length:Int)<a)=false:=by rw[kqc];omega
  have Fo:=hid a3;obtain⟨J,rfl⟩:=kq2 (show 0<=a by omega);have d2n:decide (ws.length<J)=false:=by rw[kqc];omega
  clear a3;obtain⟨i2,W,K,q,F⟩:=kze kp;have HJ:=hid W;have Z:=hid K;have Fu:=hid q;have Eq:=hid F;clear W K q F;go_enter func65,ntmps65;go_wp2_with fail;refine (aJ A ws.length c w (by omega)).mono ?_;rintro e B ⟨rfl,rfl⟩;rw[X.out];go_wp2_with fail;go_loopw [1,7] (λp v wr=>∃(i:Nat) (b:List Bk),p=.int .i64 i/\J<=i/\i<=ws.length/\i%2=0/\blocks ws J=(blocks ws i).map (b ++ ·)/\b.length<=i/\wr.ownsRow w.heap.size 55 6 v b.length (b.flatMap Bk.cells)/\Below w.heap.size w wr) (λp _ _=>ws.length-(intOf p).toNat)
  case atStart=>exact⟨J,[],rfl,kqb _,by omega,by have:=Fo.out;omega,by simp,by simp,kq1 _ _ _ _,kqk _ _⟩
  obtain⟨i,b,rfl,q1,q2,q3,q4,q5,j,E⟩:=hrel;have V:=E.size;have Fs:=hid q3;have D:=hid q4;clear q4;by_cases L:i<ws.length
  .have s:i+1<ws.length:=by have:=Fq.out;omega
   clear q3;have ik1:(i:Int)<(ws.length:Int):=by omega
   cases g:stands ws i
   .have HN:=hid (eN HS.out N.out (by rw[kqj,D.out,da L g];rfl));obtain⟨O,M⟩:=y6 g;have k:=hid (mg A ws c ws.length i wr rfl (by omega) s (HR.out.up E V) HO.out);rw[O,M] at k;unfold lG Bk.val at k;dsimp only at k;clear g O M j;go_wp2_with fail;refine k.out.mono ?_;rintro e B ⟨rfl,o⟩;have h:=E.trans (o.mono V);go_wp2;go_ret2;exact⟨kt HN.out (by omega),h.alloc h.size _⟩
   have I:=ax g;obtain⟨O,M⟩:=wv g;have k:=hid (mg A ws c ws.length i wr rfl (by omega) s (HR.out.up E V) HO.out);rw[O,M] at k;have C:=hid (show blocks ws J=(blocks ws (i+szAt ws i)).map ((b++[bkAt ws i]) ++ ·) by
    rw[D.out,aO L g];cases blocks ws (i+szAt ws i)<;>simp)
   have P:=hid (b9 Bk.cells b (bkAt ws i));have r:=aP ws i;obtain⟨x,hx⟩:=xq (bkAt ws i);obtain⟨z,H⟩:=xq (szAt ws i);rw[hx] at k C P r;rw[H] at C I r;have HX:=hid hx;obtain⟨Y,xs,T,R,S,U⟩:=x;dsimp only at r;subst r;unfold Bk.val at k;dsimp only at k;obtain⟨z1,z2,z3⟩:=I;have Fr:=hid z2;clear g O M hx H z2;go_wp2_with fail;refine k.out.mono ?_;rintro e B ⟨rfl,o⟩;have h:=E.trans (o.mono V);have f:=ae j o (kqb _);have q:=h.size;go_wp2_with (at_builtin;refine kq9 _ rfl _ _ 48 rfl w.heap.size 55 i2 _ 6 48 underlying48 HJ.out Z.out Fu.out Eq.out rfl (by decide) _ _ _ rfl ((f.alloc _).alloc _) ⟨_,0,none⟩ 1 1 [.int .i64 Y,.int .i64 (z:Int),.int .i64 T,.int .i64 R,.bool S,.int .u64 (U:Int)] rfl rfl (kX _ _ _ (kqn _ _)) (by simp[Value.oneCell']) (by unfold maxLen;omega) (by omega) (by simp;omega) ?_;intro v1 w2 y t _;have m:Bx w2 B.heap.size 55 #[.int .i64 Y,.int .i64 (z:Int),.int .i64 T,.int .i64 R,.bool S,.int .u64 (U:Int)]:=((Bx.new B 55 _).alloc _).grown t (pG f);have Ft:=am (h.alloc q (.cells #[.int .i64 Y,.int .i64 (z:Int),.int .i64 T,.int .i64 R,.bool S,.int .u64 (U:Int)] 55)) (by simp;omega) (f.alloc _) t;have hc1:w2.cell? ⟨B.heap.size,1,none⟩=some (.int .i64 (z:Int)):=m.cell 1;have hf1:=m.frozen 1;have hl1:=m.lt;clear t m);go_roundw
   case rel=>exact⟨i+z,b++[⟨Y,(z:Int),T,R,S,U⟩],by rw[kx1],by omega,by omega,by have:=Fs.out;have:=Fr.out;omega,C.out,by simp;omega,by rw[P.out,kqz];exact y,Ft⟩
   case measure=>simp[intOf];omega
  have W:i=ws.length:=by omega
  have HD:=hid (ci HS.out N.out (l:=b) (by rw[kqj,D.out,aC (by omega)];simp));clear W q3;go_wp2;go_ret2;exact⟨xI HD.out.1 HD.out.2 j,E⟩
 have G:=hid (iL HS.out (mK d));go_enter func65,ntmps65;go_wp2_with fail;refine (aJ A ws.length c w (by omega)).mono ?_;rintro e B ⟨rfl,rfl⟩;rw[X.out];by_cases h1:a<128
 .clear d;go_wp2;go_ret2;exact⟨kt G.out (by omega),kqk _ _⟩
 by_cases h2:(ws.length:Int)<a
 .clear d;go_wp2;go_ret2;exact⟨kt G.out (by omega),kqk _ _⟩
 have Fp:(a%2 != 0)=true:=by rw[kqt];omega
 have d1:decide (a<128)=false:=by rw[kqc];omega
 have d2:decide ((ws.length:Int)<a)=false:=by rw[kqc];omega
 have a0:0<=a:=by omega
 clear d;go_wp2;go_ret2;exact⟨kt G.out (by omega),kqk _ _⟩
def CV:List Bk->Option Bk
 | []=>none
 | b::l=>if b.mark=true then some b else CV l
def eM (l:List Bk) (k:Nat):Prop:=∀j,j<k->(gk l j).mark=false
theorem nk(l:List Bk):eM l 0:=λj h=>absurd h (by omega)
theorem mH(h:eM l k)(h2:(gk l k).mark=false):eM l (k+1):=λj hj=>by
 rcases kq6 j k with a|a
 .exact h j a
 .have:j=k:=by omega
  subst this;exact h2
theorem xB:∀ {l:List Bk},eM l l.length->CV l=none:=by
 intro l
 induction l with
 | nil=>intro _;rfl
 | cons b l ih =>intro h;have c:b.mark=false:=h 0 (by simp);simp only[CV,c,kzn,if_false];exact ih λj a=>by have:=h (j+1) (by simpa using a);rwa [ii] at this
theorem DB:∀ {l:List Bk} {k:Nat},k<l.length->eM l k->(gk l k).mark=true->CV l=some (gk l k):=by
 intro l
 induction l with
 | nil=>intro k h;simp at h
 | cons b l ih =>
  intro k c h a;cases k with
  | zero =>rw[nu] at a |-;simp[CV,a]
  | succ k =>have d:b.mark=false:=h 0 (by omega);simp only[CV,d,kzn,if_false];rw[ii] at a |-;exact ih (by simpa using c) (λj hj=>by have:=h (j+1) (by omega);rwa [ii] at this) a
def bp (ws:List Nat) (a:Int):Int:=if co ws a=0 then (match CV (aU ws a) with | none=>6 | some _=>0) else co ws a
def iE (ws:List Nat) (a:Int):Bk:=if co ws a=0 then (CV (aU ws a)).getD lG else lG
theorem tM(h:co ws a=r)(h0:r≠0):iE ws a=lG/\bp ws a=r:=by subst h;simp[iE,bp,h0]
theorem zw(h:co ws a=0)(hl:aU ws a=l)(hn:eM l l.length):iE ws a=lG/\bp ws a=6:=by subst hl;simp[iE,bp,h,xB hn]
theorem pL(h:co ws a=0)(hl:aU ws a=l)(hk:k<l.length)(hn:eM l k)(hm:(gk l k).mark=true):iE ws a=gk l k/\bp ws a=0:=by subst hl;simp[iE,bp,h,DB hk hn hm]
theorem DZ(h:co ws a=0)(hk:k<(aU ws a).length):(gk (aU ws a) k).kind==1 || !(gk (aU ws a) k).mark:=by
 unfold aU at hk |-;rw[if_pos h] at hk |-;unfold co at h;split at h
 .split at h
  .simp at h
  rename_i h2;have h3:=lY (by simpa using h2);cases b:blocks ws a.toNat with
  | none=>rw[b] at h;simp at h
  | some l =>
   rw[b] at hk;simp only[kq4] at hk |-;obtain⟨i,e,-,-,-,f,-⟩:=bC _ _ b (by omega) k hk;have d:=(bj _).1 (fM f);rw[bo l k hk,e];show ((ah (wd ws i)).kind==1 || !(ah (wd ws i)).mark)=true;rcases d.2 with c|c
   .simp[c.1]
   simp[c.2.2.1]
 simp at h
theorem pD(a:Int):(a.tmod 2 != 0)=(a%2 != 0):=by
 have b:a.tmod 2=0↔a%2=0:=by
  constructor
  .intro h;have:=Int.dvd_of_tmod_eq_zero h;omega
  intro h;exact Int.tmod_eq_zero_of_dvd (Int.dvd_of_emod_eq_zero h)
 rw[kzk,kqt,kqt,ne_eq,ne_eq,b]
theorem Cu(hbad:¬ (128<=a/\a<=(n:Int)/\a%2=0)):(a%2 != 0)=true/\(a.tmod 2 != 0)=true\/((a%2 != 0)=false/\(a.tmod 2 != 0)=false)/\a<128\/(a%2 != 0)=false/\128<=a/\(n:Int)<a:=by
 rw[pD];by_cases h:a%2=0
 .have:(a%2 != 0)=false:=by rw[kqp];exact h
  rw[this];by_cases b:a<128
  .exact .inr (.inl ⟨⟨rfl,rfl⟩,b⟩)
  exact .inr (.inr ⟨rfl,by omega,by omega⟩)
 have:(a%2 != 0)=true:=by rw[kqt];exact h
 rw[this];exact .inl ⟨rfl,rfl⟩
theorem gQ(ws:List Nat)(a:Int):(aU ws a).length<=4611686018427387904:=by
 unfold aU;split
 .rename_i h;unfold co at h;split at h
  .rename_i h1;have hb:=(af _).1 h1;split at h
   .simp at h
   rename_i h2;have h3:=lY (by simpa using h2);cases b:blocks ws a.toNat with
   | none=>simp
   | some l =>have:=(a9 (by omega) _ _ b (by omega) (by omega) (by omega)).1;simp only[kq4];omega
  simp at h
 simp
end Go.Proofs.YtpcajamacpbjcaaGreat
