/- Texts laid together: Arr Agg App Cut Img SumW FwbQ HdrW HdrX HdrY Walk From NxtP. -/
import Derived.Test.YtpcajamacpbjcaaGreatZKPlain
import Derived.Deep.MidRow
import Derived.Laws.Rows
import Derived.Laws.AppendOwnNone
import Derived.Laws.BitsAllLaws
import Derived.Laws.Shifts
import Derived.PlainAid
import Derived.Deep.RegionHeld3
import Derived.Deep.DrawnRows
set_option maxHeartbeats 16000000
set_option maxRecDepth 100000
set_option linter.all false
namespace Go.Proofs.YtpcajamacpbjcaaGreat
open Lib (hid)
open Go.RowKit
variable {ops:Array Oper}{b:Bk}{xm:Bool}{a r xa xk xt:Int}{l:List Bk}{ws:List Nat}{rest:List Oper}{xs:List Value}{B H g g' i k m n x xn:Nat}{o op:Oper}{dst:Option Tmp}{P:Program}{pos:String}{α:Type}{e t type:TypeId}{v:Value}{w w' w0:World}
open Go.Proofs.Tryz
theorem rF{cs:Array Value}(h:Bx w g t cs)(hv:cs[i]? = some v):w.setCell ⟨g,i,none⟩ v=w:=by
 have d:w.heap.modify g (fun | .cells c b a=>.cells (if (none:Option Nat).isSome then c else c.setIfInBounds i v) b a | o=>o)=w.heap:=by
  apply kkr;intro j;rw[Array.getElem?_modify];split
  .rename_i e;subst e;rw[show w.heap[g]? = _ from h];simp only[kzz,kjy,kzm,if_false];congr 2;apply kkr;intro k;rw[kx5];split
   .rename_i e;subst e;split
    .exact hv.symm
    rename_i hk;rw[kje (by omega)]
   rfl
  rfl
 have e:w.setCell ⟨g,i,none⟩ v={ w with heap:=w.heap.modify g (fun | .cells c b a=>.cells (if (none:Option Nat).isSome then c else c.setIfInBounds i v) b a | o=>o) }:=rfl;rw[e,d]
theorem pw{cs:Array Value}(h:Bx w g t cs):w.setCells g 0 cs.toList=w:=by
 have b:∀(vs:List Value) (o:Nat),(∀j v,vs[j]? = some v->cs[o+j]? = some v)->w.setCells g o vs=w:=by
  intro vs
  induction vs with
  | nil=>intro o _;rfl
  | cons v vs ih =>intro o a;simp only[World.setCells];rw[rF h (by have:=a 0 v rfl;simpa using this)];exact ih (o+1) (λj u c=>by have:=a (j+1) u (by simpa using c);rwa [show o+1+j=o+(j+1) by omega])
 exact b cs.toList 0 (λj v a=>by simpa using a)
theorem fA{a:Array Value}(h:Bx w g t a){cs:Array Value}(hs:cs.size=a.size):Bx (w.setCells g 0 cs.toList) g t cs:=by
 have f:∀(vs:List Value) (o:Nat) (w:World) (a:Array Value),Bx w g t a->o+vs.length=a.size ->
  ∃b,Bx (w.setCells g o vs) g t b/\b.size=a.size/\(∀j,j<o->b[j]? = a[j]?)/\∀j,j<vs.length->b[o+j]? = vs[j]?:=by
  intro vs
  induction vs with
  | nil=>intro o w a d _;exact⟨a,d,rfl,λ_ _=>rfl,λj c=>by simp at c⟩
  | cons v vs ih =>
   intro o w a d q;rw[kq2] at q;obtain⟨b,l,k,n,m⟩:=ih (o+1) _ _ (d.set_ o v) (by rw[kko];omega);rw[kko] at k;refine⟨b,l,k,λj c=>?_,λj c=>?_⟩
   .rw[n j (by omega),kx5,if_neg (by omega)]
   cases j with
   | zero=>rw[kz8,n o (by omega),kx5,if_pos rfl,if_pos (by omega)];rfl
   | succ j=>rw[show o+(j+1)=o+1+j by omega,m j (by simpa using c)];simp
 obtain⟨b,l,k,_,m⟩:=f cs.toList 0 w a h (by simpa using hs);have e:b=cs:=by
  apply kkr;intro i;by_cases p:i<cs.size
  .have:=m i (by simpa using p);rw[kxa] at this;rw[this];simp
  rw[kje (by omega),kje (by omega)]
 rwa [e] at l
theorem aU(hg:B<=g)(vs:List Value):∀ {w a:World} {o:Nat},Below B w a->Below B w (a.setCells g o vs):=by
 induction vs with
 | nil=>intro w a o h;exact h
 | cons v vs ih=>intro w a o h;exact ih (h.setCell (p:=⟨g,o,none⟩) hg v)
theorem jC{cs:Array Value}(h:Bx w g t cs):w.there g 0 cs.size:=λj a=>by rw[kxa];exact⟨by rw[h.cell j];simp[a],h.frozen j⟩
theorem po{i:TypeInfo}(ht:P.underlying t=some (.array n e))(he:P.info? e=some i)(hs:i.size=1)(hag:∀w,(isAgg e).run P w=.ok false w){cs:Array Value}(hk:k<n)(hv:cs[k]? = some v)(w:World):
 (Instr.index t (.agg cs) (.int .i64 (k:Int))).run P w=.ok v w:=by
 have a:(0:Int)<=(k:Int)/\(k:Int)<(n:Int):=by omega
 simp[Instr.index,asIntOf,run_underlying ht,a,sizeOf,typeInfo,he,hs,part,Sem.run_bind,hag,hv,Result.andThen];omega
theorem dr(hne:g'≠g)(vs:List Value):∀(w:World) (o:Nat),(w.setCells g o vs).heap[g']? = w.heap[g']?:=by
 induction vs with
 | nil=>intro w o;rfl
 | cons v vs ih=>intro w o;simp only[World.setCells];rw[ih];exact kkq w ⟨g,o,none⟩ v g' hne
theorem cV(vs:List Value):∀(w:World) (o:Nat),(w.setCells g o vs).heap.size=w.heap.size:=by
 induction vs with
 | nil=>intro w o;rfl
 | cons v vs ih=>intro w o;simp only[World.setCells];rw[ih,kxb]
def iq (w w':World) (g:Nat):Prop:=w'.heap.size=w.heap.size/\(∀g',g'≠g->w'.heap[g']? = w.heap[g']?)/\∀B,B<=g->Below B w w'
theorem iq.bx{cs:Array Value}(h:iq w w' g)(hb:Bx w g' t cs)(hne:g'≠g):Bx w' g' t cs:=(h.2.1 g' hne).trans hb
theorem iq.below(h:iq w w' g)(hb:Below B w0 w)(hB:B<=g):Below B w0 w':=hb.trans (h.2.2 B hB)
theorem ak{a:Act}{Q:Exit->Act->World->Prop}(hgd:op.guard=none)(ty:TypeId)(x y:Operand)(ho:op.op=.store ty x y)(g:Nat)(t:TypeId)(cs0 cs:Array Value)(hx:a.eval x=.pointer (some ⟨g,0,none⟩))(hy:a.eval y=.agg cs)(hb:Bx w g t cs0)(hs:cs.size=cs0.size)(hi:(P.info? ty).map (·.size)=some cs.size)(h1:cs.all (·.oneCell')=true)(h:∀W',Bx W' g t cs->iq w W' g->wpList P ops Q rest (a.put op.dst undef) W'):wpList P ops Q (op::rest) a w:=by
 have b:w.there g 0 cs.size:=by rw[hs];exact jC hb
 refine kjo hgd ty x y ho g 0 cs hx hy b hi h1 (h _ (fA hb hs) ⟨cV _ _ _,λg' c=>dr c _ _ _,λB d=>aU d _ (kql _ _)⟩)
theorem aq{a:Act}{Q:Exit->Act->World->Prop}{after:Array Edge}{guard:Option (Nat × Bool)}(ty:TypeId)(x y:Operand)(h:wpList P ops Q ({ dst:=dst,op:=.store ty x y,type:=type,pos:=pos,after:=after,guard:=guard }::rest) a w):wpList P ops Q ({ dst:=dst,op:=.store ty x y,type:=type,pos:=pos,after:=after,guard:=guard }::rest) a w:=h
theorem aM{a:Act}{Q:Exit->Act->World->Prop}{after:Array Edge}{guard:Option (Nat × Bool)}(ty:TypeId)(x:Operand)(h:wpList P ops Q ({ dst:=dst,op:=.load ty x,type:=type,pos:=pos,after:=after,guard:=guard }::rest) a w):wpList P ops Q ({ dst:=dst,op:=.load ty x,type:=type,pos:=pos,after:=after,guard:=guard }::rest) a w:=h
theorem rg{a:Act}{Q:Exit->Act->World->Prop}(hgd:op.guard=none)(v:Value)(hv:(execOp a.eval op).run P w=.ok (.value v) w)(h:wpList P ops Q rest (a.put op.dst v) w):wpList P ops Q (op::rest) a w:=
 wpList_plain hgd λ_ b=>by
  unfold Oper.wp
  rw[hv]
  exact b _ _ h
theorem pp(x0 x1 x2 x3:Int)(m:Bool)(n:Int):(#[.int .i64 x0,.int .i64 x1,.int .i64 x2,.int .i64 x3,.bool m,.int .u64 n]:Array Value).all (·.oneCell')=true:=by simp[Value.oneCell']
theorem pO:(prog.info? 55).map (·.size)=some 6:=by kernel_rfl
theorem xU(w:World){a:Act}{Q:Exit->Act->World->Prop}(hgd:o.guard=none)(s x:Operand)(t:TypeId)(ho:o.op=.call { callee:=.builtin .append,args:=#[s,x],argTypes:=#[t,t] })(base:Nat)(e:TypeId)(i:TypeInfo)(z:Value)(size bytes:Nat)(ht:P.underlying t=some (.slice e))(hi:P.info? e=some i)(hz:i.zero=some z)(hsize:i.size=size)(hby:i.bytes=bytes)(hzs:z.cells.size=size)(hsz:0<size)(v:Value)(n:Nat)(xs:List Value)(hs:a.eval s=v)(hown:w.ownsRow base e size v n xs)(B:Nat)(A:Option Addr)(m c:Nat)(news:List Value)(hx:a.eval x=.slice A m c)(hc0:A=none->c=0)(hl:news.length=m*size)(hr:Rd w B A news)(f:∀u∈news,u.oneCell'=true)(h63:n+m<=maxLen)(hbytes:(n+m)*bytes<=140737488355328)(hbase:base<=w.heap.size)(h:∀d w',w'.ownsRow base e size d (n+m) (xs++news)->w.grownBy w' v.ownBlock->wpList P ops Q rest (a.put o.dst d) w'):wpList P ops Q (o::rest) a w:=by
 cases A with
 | none =>
  have E:news=[]:=by
   cases news with
   | nil=>rfl
   | cons u us =>obtain⟨b,l,f,_⟩:=hr (by simp);cases f
  subst E;have r:m=0:=by
   rcases kx6 m with k|k
   .exact k
   have:=Nat.mul_pos k hsz;simp at hl;omega
  subst r;rw[hc0 rfl] at hx;exact wpList_append_own_none hgd s x t ho base e i size ht hi v n xs hs hown hx (h v w (by simpa using hown) (World.grownBy.refl w _))
 | some ad =>
  refine kzd w hgd s x t ho base e i z size bytes ht hi hz hsize hby hzs hsz v n xs hs hown ad m c news hx hl ?_ f h63 hbytes hbase (λd w' F y _=>h d w' F y);intro j u p;have g:news≠[]:=by intro e;subst e;simp at p
  obtain⟨b,l,e,_,q⟩:=hr g;cases e;obtain⟨D,C⟩:=kza.1 p;have:=q j D;rw[C] at this;rw[<-this];congr 1;unfold Addr.add;split
  .simp_all
  rfl
theorem gY(w:World)(base:Nat)(e:TypeId)(size:Nat)(hb:base<=w.heap.size):(w.alloc (.cells #[] e)).ownsRow base e size (.slice (some ⟨w.heap.size,0,none⟩) 0 0) 0 []:=by refine⟨by simp,.inr ⟨w.heap.size,0,#[],rfl,hb,heap_alloc_new w _,kqd _,by simp[maxLen],by simp,by simp⟩⟩
theorem dF{f:α->List Value}(h:∀x,∀u∈f x,u.oneCell'=true)(l:List α):∀u∈l.flatMap f,u.oneCell'=true:=by intro u a;obtain⟨x,_,b⟩:=kk8.1 a;exact h x u b
theorem Bk.one(b:Bk):∀u∈b.cells,u.oneCell'=true:=by intro u a;simp only[Bk.cells,kqx,kzf,or_false] at a;rcases a with rfl|rfl|rfl|rfl|rfl|rfl<;>rfl
theorem En.one(b:En):∀u∈b.cells,u.oneCell'=true:=by intro u a;simp only[En.cells,kqx,kzf,or_false] at a;rcases a with rfl|rfl<;>rfl
theorem pL(b:Nat):∀u∈ab b,u.oneCell'=true:=by intro u a;simp only[ab,kqx,kzf,or_false] at a;subst a;rfl
theorem eF(f:α->List Value)(sz:Nat)(hf:∀x,(f x).length=sz)(l:List α)(k j:Nat)(hj:j<sz)(x:α)(u:Value)(hk:∀y,l[k]? = some y->f x=(f y).set j u):
 (l.set k x).flatMap f=(l.flatMap f).set (k*sz+j) u:=by
 induction l generalizing k with
 | nil=>simp
 | cons y l ih =>
  cases k with
  | zero =>have:=hk y rfl;simp only[kqf,kzy,this,kvn,kxa];rw[List.set_append_left _ _ (by rw[hf];exact hj)]
  | succ k =>simp only[kqe,kzy];rw[ih k (λz a=>hk z (by simpa using a)),kk4 _ _ (by rw[hf,kjg];omega),hf];congr 2;rw[kjg];omega
theorem gU(f:α->List Value)(sz:Nat)(hf:∀x,(f x).length=sz)(l:List α)(n:Nat):(l.take n).flatMap f=(l.flatMap f).take (n*sz):=by
 induction l generalizing n with
 | nil=>simp
 | cons x l ih =>
  cases n with
  | zero=>simp
  | succ n =>rw[kxp,kzy,kzy,ih,List.take_append,hf];rw[kq5 (l:=f x) (by rw[hf,kjg];omega)];congr 2;rw[kjg];omega
theorem rM(f:α->List Value)(sz:Nat)(hf:∀x,(f x).length=sz)(l:List α)(n:Nat):(l.drop n).flatMap f=(l.flatMap f).drop (n*sz):=by
 induction l generalizing n with
 | nil=>simp
 | cons x l ih =>
  cases n with
  | zero=>simp
  | succ n =>rw[List.drop_succ_cons,kzy,ih,kk9,hf];rw[kjf (l:=f x) (by rw[hf,kjg];omega),kz2];congr 1;rw[kjg];omega
theorem Rd.from_{off:Nat}(h:Rd w B (some ⟨g,off,none⟩) xs)(k:Nat):Rd w B (some ⟨g,off+k,none⟩) (xs.drop k):=λl=>by
 have c:k<xs.length:=by
  rcases kq6 k xs.length with d|d
  .exact d
  exact absurd (kky d) l
 obtain⟨b,o2,e,f,i⟩:=h (by intro e;subst e;simp at c);cases e;refine⟨g,off+k,rfl,f,λj m=>?_⟩;have a:k+j<xs.length:=by simp at m;omega
 rw[kj4,kjx];exact i _ a
theorem nZ(w:World)(base:Nat)(t ty e:TypeId)(i:TypeInfo)(size:Nat)(ht:P.underlying t=some (.slice e))(hi:P.info? e=some i)(v:Value)(n:Nat)(xs:List Value)(hown:w.ownsRow base e size v n xs)(c:Nat):(Builtin.append_ #[t,t] ty #[v,.slice none 0 c]).run P w=.ok v w:=by
 rcases hown.2 with⟨rfl,rfl⟩|⟨g,cap,cur,rfl,_,_,a,_⟩
 .simp[Builtin.append_,run_underlying ht,sizeOf,typeInfo,hi,Builtin.lenOf,Builtin.firstCells]
 simp[Builtin.append_,run_underlying ht,sizeOf,typeInfo,hi,Builtin.lenOf,Builtin.firstCells,a,storeCells]
theorem lL(w:World){a:Act}{K:Act->World->Prop}{Q:Exit->Act->World->Prop}(s x:Operand)(t:TypeId)(ho:o.op=.call { callee:=.builtin .append,args:=#[s,x],argTypes:=#[t,t] })(base:Nat)(e:TypeId)(i:TypeInfo)(z:Value)(size bytes:Nat)(ht:P.underlying t=some (.slice e))(hi:P.info? e=some i)(hz:i.zero=some z)(hsize:i.size=size)(hby:i.bytes=bytes)(hzs:z.cells.size=size)(hsz:0<size)(v:Value)(n:Nat)(xs:List Value)(hs:a.eval s=v)(hown:w.ownsRow base e size v n xs)(B:Nat)(A:Option Addr)(m c:Nat)(news:List Value)(hx:a.eval x=.slice A m c)(hl:news.length=m*size)(hr:Rd w B A news)(g:∀u∈news,u.oneCell'=true)(h63:n+m<=maxLen)(hbytes:(n+m)*bytes<=140737488355328)(hbase:base<=w.heap.size)(h:∀f w',w'.ownsRow base e size f (n+m) (xs++news)->w.grownBy w' v.ownBlock->K (a.put o.dst f) w'):o.wp P a w K Q:=by
 cases A with
 | none =>
  have F:news=[]:=by
   cases news with
   | nil=>rfl
   | cons u us =>obtain⟨b,p,g,_⟩:=hr (by simp);cases g
  subst F;have y:m=0:=by
   rcases kx6 m with l|l
   .exact l
   have:=Nat.mul_pos l hsz;simp at hl;omega
  subst y;have h:=h v w (by simpa using hown) (World.grownBy.refl w _);have d:=nZ (P:=P) w base t o.type e i size ht hi v n xs hown c;unfold Oper.wp;simp[execOp,ho,resolve,invoke,builtin,hs,hx,d,Result.andThen];exact h
 | some ad =>
  refine wp_append_own w s x t ho base e i z size bytes ht hi hz hsize hby hzs hsz v n xs hs hown ad m c news hx hl ?_ g h63 hbytes hbase (λf w' G C _=>h f w' G C);intro j u q;have k:news≠[]:=by intro e;subst e;simp at q
  obtain⟨b,p,e,_,r⟩:=hr k;cases e;obtain⟨E,D⟩:=kza.1 q;have:=r j E;rw[D] at this;rw[<-this];congr 1;unfold Addr.add;split
  .simp_all
  rfl
theorem bC(w:World){a:Act}{Q:Exit->Act->World->Prop}(hgd:Region.wanted o (yielded ops a.tmps)=true)(s x:Operand)(t:TypeId)(ho:o.op=.call { callee:=.builtin .append,args:=#[s,x],argTypes:=#[t,t] })(base:Nat)(e:TypeId)(i:TypeInfo)(z:Value)(size bytes:Nat)(ht:P.underlying t=some (.slice e))(hi:P.info? e=some i)(hz:i.zero=some z)(hsize:i.size=size)(hby:i.bytes=bytes)(hzs:z.cells.size=size)(hsz:0<size)(v:Value)(n:Nat)(xs:List Value)(hs:a.eval s=v)(hown:w.ownsRow base e size v n xs)(B:Nat)(A:Option Addr)(m c:Nat)(news:List Value)(hx:a.eval x=.slice A m c)(hl:news.length=m*size)(hr:Rd w B A news)(h1:∀u∈news,u.oneCell'=true)(h63:n+m<=maxLen)(hbytes:(n+m)*bytes<=140737488355328)(hbase:base<=w.heap.size)(h:∀b w',w'.ownsRow base e size b (n+m) (xs++news)->w.grownBy w' v.ownBlock->wpList P ops Q rest (a.put o.dst b) w'):wpList P ops Q (o::rest) a w:=
 wpList_step λ_ f=>by
  rw[if_pos hgd]
  exact lL w s x t ho base e i z size bytes ht hi hz hsize hby hzs hsz v n xs hs hown B A m c news hx hl hr h1 h63 hbytes hbase λb w' d g=>f _ _ (h b w' d g)
theorem ji{a b:Bool}(h:a=b):Ending.returned (.bool a)=.returned (.bool b):=by rw[h]
theorem mn{b:Int}(h:a=b):Ending.returned (.int .i64 a)=.returned (.int .i64 b):=by rw[h]
def aj (w:Int):Bool:=decide (256<=w)&&(decide (w<=2048)&&w%8==0)
theorem aa(w:Int):aj w=true↔256<=w/\w<=2048/\w%8=0:=by simp[aj]
def kq (n:Nat):Int:=if aj (n:Int)=true then 0 else 8
theorem aX(h:aj (n:Int)=true):kq n=0:=by simp[kq,h]
theorem bD(h:aj (n:Int)=false):kq n=8:=by simp[kq,h]
theorem km(h:kq n=0):256<=n/\n<=2048/\n%8=0:=by
 cases a:aj (n:Int) with
 | false=>rw[bD a] at h;cases h
 | true=>have:=(aa _).1 a;omega
theorem DH(n:Nat)(w:World)(hn:n<=9223372036854775807):Calls prog 135 #[.int .i64 (n:Int)] w λe w'=>e=.returned (.bool (aj (n:Int)))/\w=w':=by
 have H:Hid (∀b:Bool,(b=true↔256<=n/\n<=2048/\n%8=0)->b=aj (n:Int)):=hid λb h=>by rw[kzg,aa,h];omega
 go_enter func135,ntmps135;go_wp2_with fail
 all_goals
  go_ret;exact⟨ji (H.out _ (by simp;omega)),rfl⟩
theorem aE(A:Option Addr)(n c:Nat)(w:World)(hn:n<=9223372036854775807):Calls prog 87 #[.slice A n c] w λe w'=>e=.returned (.int .i64 (kq n))/\w=w':=by
 cases a:aj (n:Int)
 all_goals
  first
   | have b:=hid (aX a)
   | have b:=hid (bD a)
  have d:=hid a;clear a;go_enter func87,ntmps87;go_wp2_with fail;refine (DH n w hn).mono ?_;rintro e w1 ⟨rfl,rfl⟩;rw[d.out];go_wp2;go_ret;exact⟨by rw[b.out];rfl,rfl⟩
def oT (n:Nat):Bool:=(decide (400<n)&&decide (n<2040))||decide (2060<n)
theorem greatW_no(h:oT n=false):n<=400\/2040<=n/\n<=2060:=by simp only[oT,kzl,kk5,kqh] at h;omega
theorem AT(A:Option Addr)(n c:Nat)(w:World)(hm:n<=9223372036854775807):
 Calls prog 12 #[.slice A n c] w λe w'=>e=.returned (.bool (oT n))/\w=w':=by
 have H:Hid (∀b:Bool,(b=true↔(400<n/\n<2040)\/2060<n)->b=oT n):=hid λb h=>by rw[kzg,h];simp[oT]
 go_enter func12,ntmps12;go_wp2_with fail
 all_goals
  go_ret;exact⟨ji (H.out _ (by simp;omega)),rfl⟩
def bT (w k:Nat):Array Value:=((List.range 8).map λi=>Value.int .u8 (if i<k then ((iV w i:Nat):Int) else 0)).toArray
theorem bj(w k:Nat):(bT w k).size=8:=by simp[bT]
theorem eM(w k i:Nat)(h:i<8):(bT w k)[i]? = some (.int .u8 (if i<k then ((iV w i:Nat):Int) else 0)):=by simp[bT,h]
theorem nA(w k:Nat)(hk:k<8):(bT w k).setIfInBounds k (.int .u8 (iV w k:Nat))=bT w (k+1):=by
 apply kkr;intro i;rw[kx5];by_cases h:i<8
 .rw[eM _ _ _ h,eM _ _ _ h];by_cases e:k=i
  .subst e;rw[if_pos rfl,if_pos (by rw[bj];exact h),if_pos (by omega)]
  rw[if_neg e];by_cases a:i<k
  .rw[if_pos a,if_pos (by omega)]
  rw[if_neg a,if_neg (by omega)]
 rw[if_neg (by omega),kje (by rw[bj];omega),kje (by rw[bj];omega)]
def gR:Array Value:=Array.replicate 8 (.int .u8 0)
theorem uW(w:Nat):gR=bT w 0:=by simp[gR,bT];rfl
theorem wF(w k:Nat):(w:Int)/2 ^ (8*k)%256=((iV w k:Nat):Int):=by rw[iV,show (256:Nat) ^ k=2 ^ (8*k) by rw[Nat.pow_mul]];rfl
theorem H6:(prog.info? 308).map (·.size)=some 8:=by kernel_rfl
theorem kT:(prog.info? 5).map (λi=>(i.zero,i.size,i.bytes))=some (some (.int .u8 0),1,1):=by kernel_rfl
theorem Hc(w:World):(isAgg 5).run prog w=.ok false w:=by kernel_rfl
theorem jV(x k:Nat):(bT x k).all (·.oneCell')=true:=by rw[kkz];intro i a;rw[bj] at a;have h:=eM x k i a;rw[kjh (by rw[bj];exact a)] at h;injection h with h;rw[h];rfl
theorem Cf(w:World):(zeroValue 308).run prog w=.ok (.agg gR) w:=by kernel_rfl
theorem Hx(x:Nat)(w:World)(hx:x<18446744073709551616):
 Calls prog 288 #[.int .u64 (x:Int)] w λe w'=>e=.returned (.agg (bT x 8))/\Below w.heap.size w w':=by
 have hzv:=Cf;have hx0:(0:Int)<=(x:Int):=by omega
 clear hx;go_enter func288,ntmps288;go_wp2_with fail;go_loopw [4,5] (λi' i wr=>∃k:Nat,k<=8/\i=.int .i64 k/\Bx wr w.heap.size 308 gR/\Bx wr (w.heap.size+1) 308 (bT x k)/\Below w.heap.size w wr) (λ_ i _=>8-(intOf i).toNat)
 case atStart =>
  refine⟨0,kqy _,rfl,(Bx.new w _ _).alloc _,?_,((kql _ _).alloc (kqd _) _).alloc (by simp) _⟩;have:=Bx.new (w.alloc (.cells gR 308)) 308 gR;rw[kqm] at this;rw[<-uW];exact this
 obtain⟨k,hk,rfl,h,d,n⟩:=hrel;have hz:=n.size;by_cases g:k<8
 .have s:=d.cell k;rw[eM _ _ _ g] at s;have hf:=d.frozen k;have a:=hid d;have q:=hid h;have ik0:(0:Int)<=(k:Int):=by omega
  have ik1:(k:Int)<8:=by omega
  clear h d;go_wp2_with fail;rw[wF];refine⟨⟨k+1,by omega,by go_num,q.out.far (p:=⟨w.heap.size+1,k,none⟩) (by dsimp only;omega) _,?_,n.setCell (p:=⟨w.heap.size+1,k,none⟩) (by dsimp only;omega) _⟩,by simp[intOf];omega⟩;rw[<-nA x k g];exact a.out.set_ k _
 obtain rfl:k=8:=by omega
 have m:(prog.info? 308).map (·.size)=some (bT x 8).size:=by rw[bj];exact H6
 have f:=jV x 8;have c:=jC h;rw[show gR.size=(bT x 8).size by rw[bj];simp[gR]] at c;have j:=hid (fA h (cs:=bT x 8) (by rw[bj];simp[gR]));have a:=hid d;have l:=hid (aU (kqd _) (bT x 8).toList (o:=0) n);clear h d;obtain⟨cs,b⟩:=xq (bT x 8);have r:=hid b;rw[b] at m f c j a l;clear b;go_wp2_with (first
  | (refine kxf rfl _ _ rfl (w.heap.size+1) (by rfl) 308 cs (0,0) _ a.out underlying308 (by rfl) m ?_)
  | (refine kjo rfl _ _ _ rfl w.heap.size 0 cs (by rfl) (by rfl) c m f ?_))
 exact kqr (v:=.agg cs) (results_cell_row rfl _ _ w.heap.size _ cs (0,0) _ (by rfl) j.out underlying308 (by rfl) m) rfl ⟨by rw[r.out],l.out⟩
theorem lN(n:Nat):IntKind.u64.wrap (n:Int)=((n%18446744073709551616:Nat):Int):=by simp[IntKind.wrap,IntKind.bits,IntKind.signed]
theorem Ae(s:Nat)(A:Option Addr)(l:List Nat)(c n:Nat)(w:World)(hn:l.length=n)(hm:n<=2048)(hs:s<18446744073709551616)(hr:RdW w w.heap.size A l)(ho:∀x∈l,x<18446744073709551616):
 Calls prog 264 #[.int .u64 (s:Int),.slice A n c] w λe w'=>e=.returned (.tuple #[.int .u64 (aS s l:Nat),.int .i64 0])/\Below w.heap.size w w':=by
 subst hn;have U:=hid hr;have V:=hid ho;have S:=hid hs;clear hr ho hs;obtain⟨i0,L,o,t,v⟩:=kzv kT;have R:=hid L;have HZ0:=hid o;have C:=hid t;have HZ2:=hid v;clear L o t v;go_enter func264,ntmps264;go_wp2_with fail;go_loopw [0,15] (λE i wr=>∃k:Nat,k<=l.length/\i=.int .i64 k/\E=.int .u64 (aS s (l.take k):Nat)/\Below w.heap.size w wr) (λ_ i _=>l.length-(intOf i).toNat)
 case atStart=>exact⟨0,kqy _,rfl,rfl,kql _ _⟩
 obtain⟨k,hk,rfl,rfl,z⟩:=hrel;have W:=z.size;by_cases f:k<l.length
 .obtain ⟨b,I,rfl,T,D⟩:=RdW.at_ U.out f;replace D:=(z.cell (p:=⟨b,I+k,none⟩) T).trans D;have N:=hid (V.out l[k] (kqp f));have H:=hid (lQ f s);obtain⟨x,M⟩:=xq (l[k]);rw[M] at D N H;have J:=hid (gP S.out (l.take k));obtain⟨q,Q⟩:=xq (aS s (l.take k));rw[Q] at H J |-;clear M Q;have ik1:(0:Int)<=(k:Int):=by omega
  have ik2:(k:Int)<(l.length:Int):=by omega
  go_wp2_with fail;refine (Hx x _ N.out).mono ?_;rintro e w1 ⟨rfl,G⟩;have F:=z.trans (G.mono W);go_wp2_with fail;go_loopw [0,21] (λE i wr=>∃j:Nat,j<=8/\i=.int .i64 j/\E=.int .u64 (yC q x j:Nat)/\Below w.heap.size w wr) (λ_ i _=>8-(intOf i).toNat)
  case atStart=>exact⟨0,kqy _,rfl,rfl,F⟩
  obtain⟨j,hj,rfl,rfl,u⟩:=hrel;by_cases g:j<8
  .have a:=eM x 8 j g;rw[if_pos g] at a;have r:=po (P:=prog) underlying308 R.out C.out Hc g a;have B:=rV x j;have h:=hid (sA J.out x j);have d:Hid (yC q x (j+1)=E8 (yC q x j) (iV x j)):=hid rfl;obtain⟨p,O⟩:=xq (yC q x j);obtain⟨y,K⟩:=xq (iV x j);rw[O] at h d |-;rw[K] at B r d;clear O K a;have m:=hid (u64_xor_nat p y h.out (by omega));have hxor:=m.out;go_wp2_with fail;refine⟨⟨j+1,by omega,by go_num,?_,u⟩,by simp[intOf];omega⟩;rw[d.out];unfold E8;rw[<-lN,kks];rfl
  obtain rfl:j=8:=by omega
  go_wp2;go_roundw
  case rel=>exact⟨k+1,by omega,by go_num,by rw[H.out];rfl,u⟩
  case measure=>simp[intOf];omega
 obtain rfl:k=l.length:=by omega
 rw[kzn];go_wp2;go_ret2;exact⟨rfl,z⟩
theorem qj(A:Option Addr)(l:List Nat)(c n:Nat)(w:World)(hn:l.length=n)(hm:n<=2048)(hr:RdW w w.heap.size A l)(ho:∀x∈l,x<18446744073709551616):
 Calls prog 222 #[.slice A n c] w λe w'=>e=.returned (.tuple #[.int .u64 (aS 14695981039346656037 l:Nat),.int .i64 0])/\Below w.heap.size w w':=by have h:=hid hr;have g:=hid ho;have f:=hid hn;clear hr ho hn;go_enter func222,ntmps222;go_wp2_with fail;refine (Ae 14695981039346656037 A l c n w f.out hm (by omega) h.out g.out).mono ?_;rintro e w1 ⟨rfl,a⟩;obtain⟨q,d⟩:=xq (aS 14695981039346656037 l);have b:=hid d;rw[d];clear d;go_wp2;go_ret2;exact⟨by rw[b.out];rfl,a⟩
theorem wD(s:Nat):s &&& 4294967295=s%4294967296:=by rw[show (4294967295:Nat)=2 ^ 32-1 from rfl,kxu]
theorem CD(w:World):Calls prog 224 #[.int .i64 0,.int .i64 32] w λe w'=>e=.returned (.int .u64 4294967295)/\w=w':=by go_enter func224,ntmps224;go_wp2;go_ret;exact⟨rfl,rfl⟩
theorem Gx(s:Nat)(w:World)(hs:s<18446744073709551616):Calls prog 223 #[.int .u64 (s:Int),.int .i64 0,.int .i64 32] w λe w'=>e=.returned (.tuple #[.int .u64 ((s%4294967296:Nat):Int),.int .i64 0])/\w=w':=by have b:=hid (u64_and_nat s 4294967295 hs (by omega));clear hs;go_enter func223,ntmps223;go_wp2_with fail;refine (CD w).mono ?_;rintro e w1 ⟨rfl,rfl⟩;have a:=b.out;rw[wD] at a;go_wp2;go_ret2;exact⟨by rw[<-a];rfl,rfl⟩
theorem wY(A:Option Addr)(l:List Nat)(c n:Nat)(w:World)(hn:l.length=n)(hm:n<=2048)(a:RdW w w.heap.size A l)(ho:∀x∈l,x<18446744073709551616):
 Calls prog 177 #[.slice A n c,.int .i64 32] w λe w'=>e=.returned (.tuple #[.int .u64 ((aS 14695981039346656037 l%4294967296:Nat):Int),.int .i64 0])/\Below w.heap.size w w':=by have k:=hid a;have j:=hid ho;have i:=hid hn;clear a ho hn;have h:=hid (gP (s:=14695981039346656037) (by omega) l);go_enter func177,ntmps177;go_wp2_with fail;refine (qj A l c n w i.out hm k.out j.out).mono ?_;rintro e w1 ⟨rfl,b⟩;obtain⟨q,g⟩:=xq (aS 14695981039346656037 l);have d:=hid g;rw[g] at h |-;clear g;go_wp2_with fail;refine (Gx q _ h.out).mono ?_;rintro e w2 ⟨rfl,rfl⟩;obtain⟨r,a⟩:=xq (q%4294967296);have f:=hid a;rw[a];clear a;go_wp2;go_ret2;exact⟨by rw[d.out,f.out];rfl,b⟩
theorem fk(n:Nat):sK n=aj (n:Int):=by rw[kzg,aa];simp only[sK,kqt,kzc,kqw];omega
def ah (ws:List Nat):Int:=if aj (ws.length:Int)=true then (match blocks ws 128 with | none=>50 | some l=>if l.all (dC ws)=true then 0 else 50) else 8
def ag (ws:List Nat):List Bk:=if ah ws=0 then (blocks ws 128).getD [] else []
theorem na(h:aj (ws.length:Int)=false):ah ws=8:=by simp[ah,h]
theorem wW(h:aj (ws.length:Int)=true)(h2:blocks ws 128=none):ah ws=50:=by simp[ah,h,h2]
theorem qM(h:aj (ws.length:Int)=true)(h2:blocks ws 128=some l)(h3:l.all (dC ws)=false):ah ws=50:=by simp only[ah,h,h2,h3,if_true,kzm,if_false]
theorem fS(h:aj (ws.length:Int)=true)(h2:blocks ws 128=some l)(h3:l.all (dC ws)=true):ah ws=0/\ag ws=l:=by
 have:ah ws=0:=by simp only[ah,h,h2,h3,if_true]
 exact⟨this,by simp[ag,this,h2]⟩
theorem ay(h:ah ws=0):aj (ws.length:Int)=true/\∃l,blocks ws 128=some l/\l.all (dC ws)=true/\ag ws=l:=by
 have b:=h;unfold ah at h;split at h
 .rename_i h1;refine⟨h1,?_⟩;cases a:blocks ws 128 with
  | none=>rw[a] at h;cases h
  | some l =>
   rw[a] at h;dsimp only at h;split at h
   .rename_i h2;exact⟨l,rfl,h2,by simp[ag,b,a]⟩
   cases h
 cases h
theorem zB(ws:List Nat):ah ws=0\/ah ws=8\/ah ws=50:=by
 unfold ah;split
 .cases blocks ws 128 with
  | none=>simp
  | some l=>dsimp only;split<;>simp
 simp
def gN:List (Int × Int)->Int->Option Int
 | [],_=>none
 | m::l,a=>if m.1=a then some m.2 else gN l a
theorem Hv{l:List (Int × Int)}{p:Nat}(hp:p<l.length)(h:∀q (a:q<p),(l[q]'(by omega)).1≠l[p].1):gN l l[p].1=some l[p].2:=by
 induction l generalizing p with
 | nil=>simp at hp
 | cons m l ih =>
  cases p with
  | zero=>simp[gN]
  | succ p =>simp only[gN,kqb];rw[if_neg (by simpa using h 0 (by omega))];exact ih (by simpa using hp) (λq a=>by simpa using h (q+1) (by omega))
theorem xP(h:b8 l=0)(s:Int)(hmn:m<=n)(hn:n<=l.length):aK (l.take m) s<=aK (l.take n) s:=by
 obtain⟨_,b⟩:=dj h
 induction n with
 | zero =>
  have:m=0:=by omega
  subst this;exact kvg _
 | succ n ih =>
  rcases kq6 n m with a|a
  .have:m=n+1:=by omega
   subst this;exact kvg _
  have h4:=ih a (by omega);have c:=(eD _).1 (dG b (show n<l.length by omega)).1;rw[bN l n (by omega)] at c;rw[ia (by omega)];split<;>omega
theorem wz :∀ {s:Int},az l s=[]->aK l s=s:=by
 induction l with
 | nil=>intro s _;rfl
 | cons b l ih =>
  intro s h;simp only[az,aK] at h |-;split at h
  .simp at h
  rename_i hb;rw[if_neg hb];exact ih h
theorem nX(s:Int)(hmn:m<=n):(az (l.take m) s).length<=(az (l.take n) s).length:=by
 have:l.take n=l.take m++(l.take n).drop m:=by
  conv=>lhs;rw[<-kxg m (l.take n),kka,kxc hmn]
 rw[this,fB,kqu];omega
theorem vK(h:b8 l=0){s:Int}(hs:s<=nO l):(∀p (b:p<(az l s).length),((az l s)[p]).2<=((az l s)[p]).1/\gN (az l s) ((az l s)[p]).1=some ((az l s)[p]).2) /\
 (∀p q (f:q<(az l s).length) (e:p<q),((az l s)[p]'(by omega)).2<((az l s)[q]).2/\((az l s)[p]'(by omega)).1<((az l s)[q]).1)/\(∀(b:0<(az l s).length),((az l s)[0]).2=s):=by
 obtain⟨_,v⟩:=dj h;have d:∀p q (f:q<(az l s).length) (e:p<q),((az l s)[p]'(by omega)).2<((az l s)[q]).2/\((az l s)[p]'(by omega)).1<((az l s)[q]).1:=by
  intro p q f e;obtain⟨k,c,i,a,j⟩:=ja (show p<(az l s).length by omega);obtain⟨m,r,b1,g,b3⟩:=ja f;rw[kqk (by omega)] at a g;have a:=Option.some.inj a;have g:=Option.some.inj g;have o:k<m:=by
   rcases kq6 k m with n|n
   .exact n
   have:=nX (l:=l) s n;omega
  have u:=xP h s (show k+1<=m by omega) (by omega);have w:=(eD _).1 (dG v c).1;rw[bN l k c] at w;rw[ia c,if_pos i] at u;have t:=lk h r o;rw[bN l k c,bN l m r] at t;rw[a,g];exact⟨by dsimp only;omega,t⟩
 refine⟨λp b=>?_,d,λb=>?_⟩
 .refine ⟨?_,Hv b (λq f=>by have:=(d q p b f).2;omega)⟩;obtain⟨k,c,i,a,j⟩:=ja b;rw[kqk b] at a;rw[Option.some.inj a];have:=sQ h hs c;rw[bN l k c] at this;exact this
 obtain⟨k,c,i,a,j⟩:=ja b;rw[kqk b] at a;rw[Option.some.inj a];exact wz (kx0 j)
def eE (l:List Bk):List Int:=(l.filter (·.mark)).map Bk.at_
theorem lE:∀ {l:List Bk},(∀b∈l,b.mark=true->b.kind=1)->∀s,eE l=(az l s).map Prod.fst:=by
 intro l
 induction l with
 | nil=>intro _ s;rfl
 | cons b l d =>
  intro h s;have d:=d (λc f=>h c (by simp[f]));cases a:b.mark with
  | true =>
   have e:aV b=true:=by simp[aV,a,h b (by simp) a]
   simp only[eE,kjn,a,if_true,kxz,az,e];congr 1;exact d (s+b.size)
  | false =>
   have e:aV b=false:=by simp[aV,a]
   simp only[eE,kjn,a,kzm,if_false,az,e];exact d s
theorem jA(h:blocks ws i=some l)(h2:i%2=0):∀b∈l,b.mark=true->b.kind=1:=by
 intro b j g;obtain⟨m,d,rfl⟩:=kqz j;obtain⟨a,e,-,-,-,k,-⟩:=b9 _ _ h h2 m d;have n:=(bA _).1 (fG k);rw[e] at g |-;have f:(ar (wd ws a)).mark=true:=g;show (ar (wd ws a)).kind=1;rcases n.2 with c|c
 .exact c.1
 rw[f] at c;exact absurd c.2.2.1 (by simp)
theorem tG{a:Bk}(h:aV a=aV b)(s:Int):bv a s=bv b s:=by unfold bv;rw[h]
theorem sO{a:Bk}(h:aV a=aV b)(h2:a.size=b.size)(s:Int):eU a s=eU b s:=by unfold eU;rw[h,h2]
theorem mS:∀ {l:List Bk} {s:Int},aQ (fwB l s) s=[]:=by
 intro l
 induction l with
 | nil=>intro s;rfl
 | cons b l ih =>
  intro s;simp only[fwB,aQ];have c:aV (if b.kind=1 then { b with next:=bv b s } else b)=aV b:=by split<;>rfl
  have f:(if b.kind=1 then { b with next:=bv b s } else b).size=b.size:=by split<;>rfl
  have d:eU (if b.kind=1 then { b with next:=bv b s } else b) s=eU b s:=sO c f s;have e:bv (if b.kind=1 then { b with next:=bv b s } else b) s=bv b s:=tG c s;rw[d,ih,e];by_cases a:b.kind=1
  .rw[if_pos a,if_neg (λh=>h.2 rfl)];rfl
  rw[if_neg a,if_neg (λh=>a h.1)];rfl
theorem zo{xs:List Nat}(hw:∀j,j<128->wd xs j=wd ws j)(hb:b.kind=1->tyA b+1<128)(s:Int):dC xs (if b.kind=1 then { b with next:=bv b s } else b)=dC ws b:=by
 by_cases a:b.kind=1
 .rw[if_pos a];have h2:=hb a;unfold dC cZ;show (b.kind != 1||(ch (wd xs (tyA b)) (wd xs (tyA b+1))&&b.size==((aY (wd xs (tyA b)%256):Nat):Int)))=_;rw[hw _ (by omega),hw _ (by omega)]
 rw[if_neg a];have:(b.kind != 1)=true:=by rw[kqv];exact a
 simp[dC,this]
theorem DW{xs:List Nat}(hw:∀j,j<128->wd xs j=wd ws j):∀ {l:List Bk} {s:Int},(∀b∈l,b.kind=1->tyA b+1<128)->(∀b∈l,0<=b.size)->l.all (dC ws)=true->0<=s->bU xs (fwB l s) s=true/\(fwB l s).all (dC xs)=true:=by
 intro l
 induction l with
 | nil=>intro s _ _ _ _;exact⟨rfl,rfl⟩
 | cons b l ih =>
  intro s i h f hs;simp only[List.all_cons,kqt] at f;have e:=zo hw (i b (by simp)) s;have k:aV (if b.kind=1 then { b with next:=bv b s } else b)=aV b:=by split<;>rfl
  have n:(if b.kind=1 then { b with next:=bv b s } else b).size=b.size:=by split<;>rfl
  obtain⟨a,m⟩:=ih (s:=eU b s) (λc g=>i c (by simp[g])) (λc g=>h c (by simp[g])) f.2 (by have:=h b (by simp);unfold eU;split<;>omega);refine⟨?_,by simp only[fwB,List.all_cons,e,f.1,m,kzr]⟩;simp only[fwB,bU,e,f.1,kzr,k,n];unfold eU at a |-;cases d:aV b with
  | true =>
   have o:b.kind=1:=by simp[aV] at d;exact d.1
   simp only[d,if_true] at a |-;rw[a,Bool.and_true,if_pos o];simp only[bv,d,if_true,kqw];omega
  | false =>simp only[d,kzm,if_false] at a |-;exact a
theorem oE(h:ah ws=0):∃l,blocks ws 128=some l/\ag ws=l/\ew l 128=0/\aW (am ws (aQ l 128)) 128 128=0/\ic (am ws (aQ l 128)) 128 128=az l 128 /\
 ah (am ws (aQ l 128))=0/\ag (am ws (aQ l 128))=fwB l 128/\aQ (fwB l 128) 128=[]/\eE l=(az l 128).map Prod.fst:=by
 obtain⟨n,l,d,u,q⟩:=ay h;have o:=(aa _).1 n;have g:=kP (i:=128) (by omega) d (by omega) (by omega) (by omega) (s:=128) (by omega) (by omega) (by omega);obtain⟨hre,-⟩:=eP g;obtain⟨k,x⟩:=sE _ ws 128 l (kqd _) d 128;have c:(am ws (aQ l 128)).length=ws.length:=ax _ _;obtain⟨w,v⟩:=DW (xs:=am ws (aQ l 128)) (λj hj=>x j (by omega)) (l:=l) (s:=128) (je d (by omega)) (λb o=>by
  obtain⟨m,p,rfl⟩:=kqz o;obtain⟨a,e,-⟩:=b9 _ _ d (by omega) m p;rw[e,bq];omega) u (by omega)
 have f:aW (am ws (aQ l 128)) 128 128=0:=by
  rw[iB (l:=fwB l 128) (by rw[c,fk];exact n) ?_ k,if_pos w];rw[c];cases y:fT ws.length 128 128 with
  | false=>rfl
  | true=>exact absurd (by omega) ((kA _ _ _).1 y)
 obtain⟨r,t⟩:=fS (by rw[c];exact n) k v;refine⟨l,d,q,g,f,?_,r,t,mS,lE (jA d (by omega)) 128⟩;unfold ic;rw[if_pos f];show (match blocks (am ws (aQ l 128)) 128 with|none=>[] | some l=>az l 128)=_;rw[k];exact Ea.2.1
theorem zF :∀i l,blocks ws i=some l->∀s,(aQ l s).Pairwise (λa b=>a.a<b.a):=by
 refine dU _ (λi _ s=>List.Pairwise.nil) (λi l hi d f c s=>?_);have hsz:=aH d;simp only[aQ];split
 .refine List.Pairwise.cons (λe g=>?_) (c _);have:=pZ _ _ f _ e g;show (bkAt ws i).at_+1<e.a;rw[ae];omega
 exact c _
def iX (b:Bk):Int:=if iY b=true then 0 else 8
theorem iR(h:iY b=true):iX b=0:=by simp[iX,h]
theorem mq(h:iY b=false):iX b=8:=by simp[iX,h]
theorem zr{xs:Int}(h:(2<=xs/\xs%2=0)/\(xk=1/\0<=xt/\xt<8/\xs<=10\/xk=2/\xt=0/\xm=false/\xs<=1920)):(0:Int)=iX ⟨xa,xs,xk,xt,xm,xn⟩:=(iR ((bA _).2 h)).symm
theorem yy{xs:Int}(h:¬ ((2<=xs/\xs%2=0)/\(xk=1/\0<=xt/\xt<8/\xs<=10\/xk=2/\xt=0/\xm=false/\xs<=1920))):(8:Int)=iX ⟨xa,xs,xk,xt,xm,xn⟩:=
 (mq (by
  cases a:iY ⟨xa,xs,xk,xt,xm,xn⟩ with
  | false=>rfl
  | true=>exact absurd ((bA _).1 a) h)).symm
theorem rb(b:Bk)(w:World):Calls prog 165 #[b.val] w λe w'=>e=.returned (.int .i64 (iX b))/\Below w.heap.size w w':=by
 obtain⟨xa,xs,xk,xt,a,xn⟩:=b;unfold Bk.val;cases a
 all_goals
  go_enter func165,ntmps165;go_wp2_with fail
  all_goals
   go_ret;refine⟨?_,(kql _ _).alloc (kqd _) _⟩;(try simp only[kqv,ne_eq,kqq,kx2,kkt,kqh,kzc] at *)
   first
    | (exfalso;omega)
    | exact mn (zr (by simp only[reduceCtorEq,and_false,false_and,or_false,true_and];omega))
    | exact mn (yy (by simp only[reduceCtorEq,and_false,false_and,or_false,true_and];omega))
def OfRes (b:Bk) (e:Ending):Prop:=∃a1 a2 a3 a4,e=.returned (.agg #[.int .u64 (ku b:Nat),a1,a2,a3,a4])
theorem jZ{a:Nat}(ha:a<2 ^ i):a ||| x*2 ^ i=a+x*2 ^ i:=by rw[Nat.or_comm,nat_join i _ a (by simp) ha,kjp]
theorem vi{K M T S:Nat}{m:Int}(hK:K<256)(hM:M<=1)(hT:T<128)(hS:S<65536)(hm:m=((M*256:Nat):Int)):
 bits BinOp.or .u64 (bits BinOp.or .u64 (bits BinOp.or .u64 (K:Int) m) ((T:Int)*512)) ((S:Int)*65536)=((K+M*256+T*512+S*65536:Nat):Int):=by
 subst hm;have a:=u64_or_nat K (M*256) (by omega) (by omega);have f:K ||| M*256=K+M*256:=by rw[show M*256=M*2 ^ 8 from rfl,jZ hK]
 rw[f] at a;rw[a];have b:=u64_or_nat (K+M*256) (T*512) (by omega) (by omega);have e:K+M*256 ||| T*512=K+M*256+T*512:=by rw[show T*512=T*2 ^ 9 from rfl,jZ (by omega)]
 rw[e] at b;rw[show ((T:Int)*512)=((T*512:Nat):Int) by simp,b];have c:=u64_or_nat (K+M*256+T*512) (S*65536) (by omega) (by omega);have d:K+M*256+T*512 ||| S*65536=K+M*256+T*512+S*65536:=by rw[show S*65536=S*2 ^ 16 from rfl,jZ (by omega)]
 rw[d] at c;rw[show ((S:Int)*65536)=((S*65536:Nat):Int) by simp,c]
theorem mW(w:World)(cs:List Value)(t:TypeId):Rd (w.alloc (.cells cs.toArray t)) (w.heap.size+1) (some ⟨w.heap.size,0,none⟩) cs:=λ_ =>
 ⟨w.heap.size,0,rfl,by omega,λj a=>by
  have:=(Bx.new w t cs.toArray).cell j
  rw[kxa,this]
  simp[a]⟩
theorem hdOf_c(b:Bk)(w:World)(hb:iY b=true):Calls prog 166 #[b.val] w λe w'=>OfRes b e/\Below w.heap.size w w':=by
 obtain⟨d,c,a,h,i,g,h7⟩:=sq hb;clear hb;obtain⟨xa,xs,xk,xt,f,xn⟩:=b;dsimp only at *;obtain⟨K,rfl⟩:=kq1 h;obtain⟨T,rfl⟩:=kq1 i;obtain⟨S,rfl⟩:=kq1 g;simp only[kqj] at d c a;unfold Bk.val;cases f
 all_goals
  go_enter func166,ntmps166;go_wp2_with fail
 .refine kqr (v:=.agg #[.int .u64 (bits BinOp.or .u64 (bits BinOp.or .u64 (bits BinOp.or .u64 (K:Int) 0) ((T:Int)*512)) ((S:Int)*65536)),.int .u64 (K:Int),.int .u64 (T:Int),.int .u64 (S:Int),.int .u64 0]) (by simp[results,results166,go_sem]) rfl ⟨?_,?_⟩
  .refine ⟨.int .u64 (K:Int),.int .u64 (T:Int),.int .u64 (S:Int),.int .u64 0,?_⟩;rw[vi (M:=0) d (by omega) c a (by simp)];rfl
  exact (((kql _ _).alloc (kqd _) _).alloc (by simp) _).alloc (by simp;omega) _
 refine kqr (v:=.agg #[.int .u64 (bits BinOp.or .u64 (bits BinOp.or .u64 (bits BinOp.or .u64 (K:Int) 256) ((T:Int)*512)) ((S:Int)*65536)),.int .u64 (K:Int),.int .u64 (T:Int),.int .u64 (S:Int),.int .u64 1]) (by simp[results,results166,go_sem]) rfl ⟨?_,?_⟩
 .refine ⟨.int .u64 (K:Int),.int .u64 (T:Int),.int .u64 (S:Int),.int .u64 1,?_⟩;rw[vi (M:=1) d (by omega) c a (by simp)];rfl
 exact (((kql _ _).alloc (kqd _) _).alloc (by simp) _).alloc (by simp;omega) _
theorem or32{t:Nat}(hx:x<4294967296)(ht:t<4294967296):bits BinOp.or .u64 (x:Int) ((t:Int)*4294967296)=((x+t*4294967296:Nat):Int):=by have h:=u64_or_nat x (t*4294967296) (by omega) (by omega);rw[show t*4294967296=t*2 ^ 32 from rfl,jZ (i:=32) (by omega)] at h;rw[<-h];simp
theorem Dd(x:Nat)(w:World)(hx:x<4294967296):Calls prog 167 #[.int .u64 (x:Int)] w λe w'=>e=.returned (.tuple #[.int .u64 ((x+gM x%4294967296*4294967296:Nat):Int),.int .i64 0])/\Below w.heap.size w w':=by
 have c:gM x%4294967296<4294967296:=kz0 _ (by omega);have d:=hid (or32 hx c);have j:=hid hx;have hx0:(0:Int)<=(x:Int):=by omega
 have i:Hid (aS 14695981039346656037 [x]=gM x):=hid rfl;clear hx;go_enter func167,ntmps167;go_wp2_with fail;have b:=mW w [.int .u64 (x:Int)] 53;refine (wY _ [x] _ 1 _ rfl (by omega) (by rw[kqm];exact b) (by intro y h;simp at h;subst h;have:=j.out;omega)).mono ?_;rintro e w1 ⟨rfl,a⟩;rw[kqm] at a;have f:=av a;rw[i.out];obtain⟨t,g⟩:=xq (gM x%4294967296);have k:=hid g;rw[g] at c d |-;clear g a b;go_wp2;go_ret2;exact⟨by rw[k.out,<-d.out];rfl,f⟩
def jy (b:Bk):Nat:=if iY b=true then cR b else 0
theorem pm(b:Bk)(w:World):Calls prog 105 #[b.val] w λe w'=>e=.returned (.tuple #[.int .u64 (jy b:Nat),.int .i64 (iX b)])/\Below w.heap.size w w':=by
 cases c:iY b
 .have i:=hid (show jy b=0 by simp[jy,c]);have g:=hid (mq c);have d:=hid (λW=>rb b W);clear c;obtain⟨C,xs,z,s,x,t⟩:=b;unfold Bk.val at d |-;dsimp only at d |-;go_enter func105,ntmps105;go_wp2_with fail;refine (d.out _).mono ?_;rintro e B ⟨rfl,a⟩;rw[kqm] at a;rw[g.out];go_wp2;go_ret2;exact⟨by rw[i.out,g.out];rfl,av a⟩
 have i:=hid (show jy b=ku b+gM (ku b)%4294967296*4294967296 by simp[jy,c,cR]);have g:=hid (iR c);have d:=hid (λW=>rb b W);have l:=hid (λW=>hdOf_c b W c);have o:=hid (uU c);clear c;obtain⟨q,n⟩:=xq (ku b);have r:=hid n;rw[n] at i o;clear n;obtain⟨C,xs,z,s,x,t⟩:=b;unfold Bk.val at d l |-;dsimp only at d l |-;go_enter func105,ntmps105;go_wp2_with fail;refine (d.out _).mono ?_;rintro e B ⟨rfl,a⟩;rw[kqm] at a;have h:=av a;have p:=Bx.of_new a;obtain⟨c0,c1,c2,c3,c4,c5,-,hz⟩:=p.c6;rw[g.out];clear p a;go_wp2_with fail;refine (l.out _).mono ?_;rintro e w2 ⟨⟨u,A,v,y,rfl⟩,m⟩;have f:=h.trans (m.mono h.size);rw[r.out];have hfld:∀W,(Instr.field 231 (.agg #[.int .u64 (q:Int),u,A,v,y]) 0).run prog W=.ok (.int .u64 (q:Int)) W:=λ_=>by kernel_rfl
 go_wp2_with fail;refine (Dd q _ o.out).mono ?_;rintro e w3 ⟨rfl,k⟩;have j:=f.trans (k.mono f.size);rw[<-i.out];go_wp2;go_ret2;exact⟨by rw[g.out];rfl,j⟩
def mf:Bk:=⟨0,0,0,0,false,0⟩
def Cv (w:Nat):Bk:=if aB w=true then ar w else mf
def nM (w:Nat):Int:=if aB w=true then 0 else 50
theorem lS{w:Nat}(h:aB w=true):Cv w=ar w/\nM w=0:=by simp[Cv,nM,h]
theorem lM{w:Nat}(h:aB w=false):Cv w=mf/\nM w=50:=by simp[Cv,nM,h]
theorem tf(hx:x<18446744073709551616)(hm:m=2 ^ k-1)(hk:m<18446744073709551616):bits BinOp.and .u64 (x:Int) (m:Int)=((x%2 ^ k:Nat):Int):=by rw[u64_and_nat x m hx hk,hm,kxu]
theorem th(w:Nat)(hw:w<18446744073709551616):bits BinOp.and .u64 (w:Int) 255=((w%256:Nat):Int)/\bits BinOp.and .u64 ((w:Int)/256) 1=((w/256%2:Nat):Int)/\bits BinOp.and .u64 ((w:Int)/512) 127=((w/512%128:Nat):Int)/\bits BinOp.and .u64 ((w:Int)/65536) 65535=((w/65536%65536:Nat):Int):=
 ⟨tf (k:=8) (m:=255) hw (by decide) (by omega),tf (x:=w/256) (k:=1) (m:=1) (by omega) (by decide) (by omega),tf (x:=w/512) (k:=7) (m:=127) (by omega) (by decide) (by omega),tf (x:=w/65536) (k:=16) (m:=65535) (by omega) (by decide) (by omega)⟩
theorem aR{fn:Func}{p q:Tmp}(h:fn.results=#[.cell p 55,.tmp q])(tmps:Array Value){W:World}{v0 v1 v2 v3 v4 v5 u:Value}(hb:Bx W g t #[v0,v1,v2,v3,v4,v5])(hp:tmps.getD p undef=.pointer (some ⟨g,0,none⟩))(hq:tmps.getD q undef=u):
 (results fn tmps).run prog W=.ok (.tuple #[.agg #[v0,v1,v2,v3,v4,v5],u]) W:=by obtain⟨e,f,c,d,a,b,-,-⟩:=hb.c6;rw[kxq] at hp hq;simp[results,h,hp,hq,go_sem,e,f,c,d,a,b]
theorem mI(x:Nat)(w:World)(hx:x<18446744073709551616):Calls prog 172 #[.int .u64 (x:Int)] w λe w'=>e=.returned (.tuple #[(Cv x).val,.int .i64 (nM x)])/\Below w.heap.size w w':=by
 obtain⟨L,P,e3,I⟩:=th x hx;have l:=hid (λW=>pm (ar x) W);have C:Hid (iX (ar x)=0->jy (ar x)=x->Cv x=ar x/\nM x=0):=hid λJ h2=>lS (by
  have U:iY (ar x)=true:=by
   cases s:iY (ar x) with
   | true=>rfl
   | false=>rw[mq s] at J;cases J
  simp only[jy,U,if_true] at h2;simp[aB,U,h2])
 have m:Hid (iX (ar x)≠0\/jy (ar x)≠x->Cv x=mf/\nM x=50):=hid λh=>lM (by
  cases s:iY (ar x) with
  | false=>simp[aB,s]
  | true =>
   rcases h with h|h
   .exact absurd (iR s) h
   simp only[jy,s,if_true] at h;simp[aB,s,h])
 have hx0:(0:Int)<=(x:Int):=by omega
 have d:(ar x).val=.agg #[.int .i64 0,.int .i64 ((x/65536%65536:Nat):Int),.int .i64 ((x%256:Nat):Int),.int .i64 ((x/512%128:Nat):Int),.bool (x/256%2==1),.int .u64 0]:=rfl;have Q:x%256<256:=kz0 _ (by omega);have m2:x/256%2<2:=kz0 _ (by omega);have N:x/512%128<128:=kz0 _ (by omega);have Y:x/65536%65536<65536:=kz0 _ (by omega);rw[d] at l;have a:=hid d;have g:((((x/256%2:Nat):Int))==1)=(x/256%2==1):=by rw[kzg,kqw,kqw];omega
 obtain⟨K,O⟩:=xq (x%256);obtain⟨M,X⟩:=xq (x/256%2);obtain⟨T,hT⟩:=xq (x/512%128);obtain⟨S,Z⟩:=xq (x/65536%65536);rw[O] at L Q l a;rw[X] at P m2 g l a;rw[hT] at e3 N l a;rw[Z] at I Y l a;obtain⟨r,t⟩:=xq ((M==1));rw[t] at g l a;obtain⟨V,q⟩:=xq (jy (ar x));obtain⟨R,c⟩:=xq (iX (ar x));rw[q,c] at C m l;clear hx d O X hT Z t q c;go_enter func172,ntmps172;go_wp2_with fail;have E:=(Bx.new w 55 #[.int .i64 0,.int .i64 0,.int .i64 0,.int .i64 0,.bool false,.int .u64 0]).alloc (.cells #[.int .i64 0,.int .i64 (S:Int),.int .i64 (K:Int),.int .i64 (T:Int),.bool r,.int .u64 0] 55);have D:=Bx.new (w.alloc (.cells #[.int .i64 0,.int .i64 0,.int .i64 0,.int .i64 0,.bool false,.int .u64 0] 55)) 55 #[.int .i64 0,.int .i64 (S:Int),.int .i64 (K:Int),.int .i64 (T:Int),.bool r,.int .u64 0];have i:Below w.heap.size w ((w.alloc (.cells #[.int .i64 0,.int .i64 0,.int .i64 0,.int .i64 0,.bool false,.int .u64 0] 55)).alloc (.cells #[.int .i64 0,.int .i64 (S:Int),.int .i64 (K:Int),.int .i64 (T:Int),.bool r,.int .u64 0] 55)):=((kql _ _).alloc (kqd _) _).alloc (by simp) _;have B:((w.alloc (.cells #[.int .i64 0,.int .i64 0,.int .i64 0,.int .i64 0,.bool false,.int .u64 0] 55)).alloc (.cells #[.int .i64 0,.int .i64 (S:Int),.int .i64 (K:Int),.int .i64 (T:Int),.bool r,.int .u64 0] 55)).heap.size=w.heap.size+2:=by simp
 rw[kqm] at D;obtain⟨H,A⟩:∃H,(w.alloc (.cells #[.int .i64 0,.int .i64 0,.int .i64 0,.int .i64 0,.bool false,.int .u64 0] 55)).alloc (.cells #[.int .i64 0,.int .i64 (S:Int),.int .i64 (K:Int),.int .i64 (T:Int),.bool r,.int .u64 0] 55)=H:=⟨_,rfl⟩;rw[A] at E D i B |-;clear A;refine (l.out H).mono ?_;rintro e w1 ⟨rfl,f⟩;have o:=i.trans (f.mono i.size);obtain⟨c0,c1,c2,c3,c4,c5,n,cz⟩:=(E.up f (by omega)).c6;obtain⟨d0,d1,d2,d3,d4,d5,df,dz⟩:=(D.up f (by omega)).c6;have cf0:=n 0;have cf1:=n 1;have cf2:=n 2;have cf3:=n 3;have cf4:=n 4;have cf5:=n 5;have G:=hid (E.up f (by omega));clear E D f i B n df L P e3 I g Q m2 N Y;by_cases c:R=0
 .by_cases q:V=x
  .obtain ⟨j,k⟩:=C.out c q;have u:=hid j;have z:=hid k;have y:(R != 0)=false:=by rw[kqq];exact c
   have F:((V:Int) != (x:Int))=false:=by rw[kqq];omega
   clear c q j k;go_wp2_with fail;refine kqr (v:=.tuple #[.agg #[.int .i64 0,.int .i64 (S:Int),.int .i64 (K:Int),.int .i64 (T:Int),.bool r,.int .u64 0],.int .i64 0]) (aR results172 _ ((((((G.out.set_ 0 _).set_ 1 _).set_ 2 _).set_ 3 _).set_ 4 _).set_ 5 _) rfl rfl) rfl ⟨by rw[u.out,z.out,a.out],?_⟩;exact (kze (p:=⟨w.heap.size,5,none⟩) (kze (p:=⟨w.heap.size,4,none⟩) (kze (p:=⟨w.heap.size,3,none⟩) (kze (p:=⟨w.heap.size,2,none⟩) (kze (p:=⟨w.heap.size,1,none⟩) (kze (p:=⟨w.heap.size,0,none⟩) o (kqd _) _) (kqd _) _) (kqd _) _) (kqd _) _) (kqd _) _) (kqd _) _)
  obtain⟨j,k⟩:=m.out (.inr q);have u:=hid j;have z:=hid k;have y:(R != 0)=false:=by rw[kqq];exact c
  have F:((V:Int) != (x:Int))=true:=by rw[kqv];omega
  clear c q j k;go_wp2_with fail;refine kqr (v:=.tuple #[.agg #[.int .i64 0,.int .i64 0,.int .i64 0,.int .i64 0,.bool false,.int .u64 0],.int .i64 50]) (aR results172 _ ((((((G.out.set_ 0 _).set_ 1 _).set_ 2 _).set_ 3 _).set_ 4 _).set_ 5 _) rfl rfl) rfl ⟨by rw[u.out,z.out];rfl,?_⟩;exact (kze (p:=⟨w.heap.size,5,none⟩) (kze (p:=⟨w.heap.size,4,none⟩) (kze (p:=⟨w.heap.size,3,none⟩) (kze (p:=⟨w.heap.size,2,none⟩) (kze (p:=⟨w.heap.size,1,none⟩) (kze (p:=⟨w.heap.size,0,none⟩) o (kqd _) _) (kqd _) _) (kqd _) _) (kqd _) _) (kqd _) _) (kqd _) _)
 obtain⟨j,k⟩:=m.out (.inl c);have u:=hid j;have z:=hid k;have y:(R != 0)=true:=by rw[kqv];exact c
 clear c j k;go_wp2_with fail;refine kqr (v:=.tuple #[.agg #[.int .i64 0,.int .i64 0,.int .i64 0,.int .i64 0,.bool false,.int .u64 0],.int .i64 50]) (aR results172 _ ((((((G.out.set_ 0 _).set_ 1 _).set_ 2 _).set_ 3 _).set_ 4 _).set_ 5 _) rfl rfl) rfl ⟨by rw[u.out,z.out];rfl,?_⟩;exact (kze (p:=⟨w.heap.size,5,none⟩) (kze (p:=⟨w.heap.size,4,none⟩) (kze (p:=⟨w.heap.size,3,none⟩) (kze (p:=⟨w.heap.size,2,none⟩) (kze (p:=⟨w.heap.size,1,none⟩) (kze (p:=⟨w.heap.size,0,none⟩) o (kqd _) _) (kqd _) _) (kqd _) _) (kqd _) _) (kqd _) _) (kqd _) _)
def stB (ws:List Nat) (a:Nat):Bk:=if stands ws a=true then bkAt ws a else mf
def tq (ws:List Nat) (a:Nat):Int:=if stands ws a=true then 0 else 50
theorem xI{a:Nat}(h:stands ws a=true):stB ws a=bkAt ws a/\tq ws a=0:=by simp[stB,tq,h]
theorem zd{a:Nat}(h:stands ws a=false):stB ws a=mf/\tq ws a=50:=by simp[stB,tq,h]
theorem cq(h:i<ws.length):wd ws i=ws[i]:=by simp[wd,h]
theorem fF(ho:∀x∈ws,x<18446744073709551616)(i:Nat):wd ws i<18446744073709551616:=by
 by_cases h:i<ws.length
 .rw[cq h];exact ho _ (kqp h)
 simp[wd,h]
theorem lT{x0 x1 x2 x3 x4 x5:Value}(h:Bx w g t #[x0,x1,x2,x3,x4,x5])(u0 u1 u2 u3 u4 u5:Value):
 Bx ((((((w.setCell ⟨g,0,none⟩ u0).setCell ⟨g,1,none⟩ u1).setCell ⟨g,2,none⟩ u2).setCell ⟨g,3,none⟩ u3).setCell ⟨g,4,none⟩ u4).setCell ⟨g,5,none⟩ u5) g t #[u0,u1,u2,u3,u4,u5]:=
 (((((h.set_ 0 u0).set_ 1 u1).set_ 2 u2).set_ 3 u3).set_ 4 u4).set_ 5 u5
theorem fo(h:Below B w0 w)(hg:B<=g)(u0 u1 u2 u3 u4 u5:Value):
 Below B w0 ((((((w.setCell ⟨g,0,none⟩ u0).setCell ⟨g,1,none⟩ u1).setCell ⟨g,2,none⟩ u2).setCell ⟨g,3,none⟩ u3).setCell ⟨g,4,none⟩ u4).setCell ⟨g,5,none⟩ u5):=
 (((((h.setCell (p:=⟨g,0,none⟩) hg u0).setCell (p:=⟨g,1,none⟩) hg u1).setCell (p:=⟨g,2,none⟩) hg u2).setCell (p:=⟨g,3,none⟩) hg u3).setCell (p:=⟨g,4,none⟩) hg u4).setCell (p:=⟨g,5,none⟩) hg u5
theorem mx(A:Option Addr)(ws:List Nat)(c n a:Nat)(w:World)(hn:ws.length=n)(hm:n<=1000000)(ha:a+1<n)(hr:RdW w w.heap.size A ws)(ho:∀x∈ws,x<18446744073709551616):
 Calls prog 112 #[.slice A n c,.int .i64 (a:Int)] w λe w'=>e=.returned (.tuple #[(stB ws a).val,.int .i64 (tq ws a)])/\Below w.heap.size w w':=by
 subst hn;have HR:=hid hr;have t:=fF ho a;have g:=hid (λW=>mI (wd ws a) W t);obtain⟨b,r,rfl,hb,Y⟩:=RdW.at_ hr (show a<ws.length by omega);obtain⟨b',off',e',-,U⟩:=RdW.at_ hr ha;cases e';rw[<-cq] at Y U;have ik0:(0:Int)<=(a:Int):=by omega
 have ik1:(a:Int)<(ws.length:Int):=by omega
 have ik2:(a:Int)+1<(ws.length:Int):=by omega
 have ik3:(0:Int)<=(a:Int)+1:=by omega
 have htn:((a:Int)+1).toNat=a+1:=by omega
 have i:(ar (wd ws a)).val=.agg #[.int .i64 0,.int .i64 ((szAt ws a:Nat):Int),.int .i64 ((wd ws a%256:Nat):Int),.int .i64 ((wd ws a/512%128:Nat):Int),.bool (wd ws a/256%2==1),.int .u64 0]:=rfl;have o:(bkAt ws a).val=.agg #[.int .i64 (a:Int),.int .i64 ((szAt ws a:Nat):Int),.int .i64 ((wd ws a%256:Nat):Int),.int .i64 ((wd ws a/512%128:Nat):Int),.bool (wd ws a/256%2==1),.int .u64 ((wd ws (a+1):Nat):Int)]:=rfl;have Eq:szAt ws a<65536:=kz0 _ (by omega);have j:Hid (stands ws a=(aB (wd ws a)&&decide ((szAt ws a:Int)<=(ws.length:Int)-a))):=hid rfl;have I:Hid (stands ws a=false->stB ws a=mf/\tq ws a=50):=hid zd;have R:Hid (stands ws a=true->stB ws a=bkAt ws a/\tq ws a=0):=hid xI;cases s:aB (wd ws a)
 .obtain ⟨l,m⟩:=I.out (by rw[j.out,s];rfl);obtain⟨P,F⟩:=lM s;rw[P,F] at g;have G:=hid l;have H:=hid m;clear hr i o s l m P F t;unfold Bk.val mf at g;dsimp only at g;obtain⟨x,t⟩:=xq (wd ws a);rw[t] at Y g;clear t;go_enter func112,ntmps112;go_wp2_with fail;refine (g.out _).mono ?_;rintro e Q ⟨rfl,d⟩;rw[kqm] at d;have k:=Bx.of_new d;have h:=av d;have J:=hid k;obtain⟨c0,c1,c2,c3,c4,c5,f,cz⟩:=k.c6;have O:=f 0;have E:=f 1;have D:=f 2;have N:=f 3;have u:=f 4;have L:=f 5;clear k f d;go_wp2_with fail;refine kqr (v:=.tuple #[.agg #[.int .i64 0,.int .i64 0,.int .i64 0,.int .i64 0,.bool false,.int .u64 0],.int .i64 50]) (aR results112 _ ((lT J.out _ _ _ _ _ _).alloc _) rfl rfl) rfl ⟨by rw[G.out,H.out];rfl,(fo h (kqd _) _ _ _ _ _ _).alloc (by simp;have:=h.size;omega) _⟩
 obtain⟨P,F⟩:=lS s;rw[P,F,i] at g;have q:=hid o;obtain⟨S,Z⟩:=xq (szAt ws a);obtain⟨K,hK⟩:=xq (wd ws a%256);obtain⟨T,hT⟩:=xq (wd ws a/512%128);obtain⟨M,hM⟩:=xq ((wd ws a/256%2==1));rw[Z,hK,hT,hM] at g q;rw[Z] at Eq j;rw[s,kzr] at j;obtain⟨x,z⟩:=xq (wd ws a);obtain⟨y,C⟩:=xq (wd ws (a+1));rw[z] at Y g;rw[C] at U q;clear hr i o s P F t Z hK hT hM z C;by_cases B:(ws.length:Int)-a<S
 .obtain ⟨l,m⟩:=I.out (by rw[j.out,kqh];omega);have G:=hid l;have H:=hid m;clear l m;go_enter func112,ntmps112;go_wp2_with fail;refine (g.out _).mono ?_;rintro e Q ⟨rfl,d⟩;rw[kqm] at d;have k:=Bx.of_new d;have h:=av d;have J:=hid k;obtain⟨c0,c1,c2,c3,c4,c5,f,cz⟩:=k.c6;have O:=f 0;have E:=f 1;have D:=f 2;have N:=f 3;have u:=f 4;have L:=f 5;clear k f d;go_wp2_with fail;refine kqr (v:=.tuple #[.agg #[.int .i64 0,.int .i64 0,.int .i64 0,.int .i64 0,.bool false,.int .u64 0],.int .i64 50]) (aR results112 _ ((lT J.out _ _ _ _ _ _).alloc _) rfl rfl) rfl ⟨by rw[G.out,H.out];rfl,(fo h (kqd _) _ _ _ _ _ _).alloc (by simp;have:=h.size;omega) _⟩
 obtain⟨l,m⟩:=R.out (by rw[j.out,kqn];omega);have G:=hid l;have H:=hid m;have hle:(S:Int)<=(ws.length:Int)-a:=by omega
 clear l m B;go_enter func112,ntmps112;go_wp2_with fail;refine (g.out _).mono ?_;rintro e Q ⟨rfl,d⟩;rw[kqm] at d;have k:=Bx.of_new d;have h:=av d;have J:=hid k;obtain⟨c0,c1,c2,c3,c4,c5,f,cz⟩:=k.c6;have O:=f 0;have E:=f 1;have D:=f 2;have N:=f 3;have u:=f 4;have L:=f 5;clear k f d;have hbw:b<Q.heap.size:=by have:=h.size;omega
 have V:=(h.cell (p:=⟨b,r+(a+1),none⟩) hb).trans U;have hwr:IntKind.i64.wrap ((a:Int)+1)=(a:Int)+1:=kqs _ (by omega);go_wp2_with fail;have hne:=World.new_ne Q ⟨b,r+(a+1),none⟩ V
 go_region_held3 (λX:World=>X.cell? ⟨b,r+(a+1),none⟩=some (.int .u64 (y:Int))) (go_keep) (fail)
 all_goals
  go_wp2_with fail;refine kqr (v:=.tuple #[.agg #[.int .i64 (a:Int),.int .i64 (S:Int),.int .i64 (K:Int),.int .i64 (T:Int),.bool M,.int .u64 (y:Int)],.int .i64 0]) (aR results112 _ (show Bx (World.drew _) _ _ _ from (lT J.out _ _ _ _ _ _).alloc _) rfl rfl) rfl ⟨by rw[G.out,H.out,q.out],((fo h (kqd _) _ _ _ _ _ _).alloc (by simp;have:=h.size;omega) _).drew⟩
def fc (n:Nat) (a:Int):Bool:=decide (a<128)||(decide ((n:Int)<a)||a%2 != 0)
def bQ (ws:List Nat) (a:Int):Int:=if aj (ws.length:Int)=true then (if fc ws.length a=true then 2 else (match blocks ws a.toNat with | none=>50 | some _=>0)) else 8
def aN (ws:List Nat) (a:Int):List Bk:=if bQ ws a=0 then (blocks ws a.toNat).getD [] else []
def pG (ws:List Nat) (a:Int) (e:Ending) (w':World):Prop:=∃A c,e=.returned (.tuple #[.slice A (aN ws a).length c,.int .i64 (bQ ws a)])/\RdB w' w'.heap.size A (aN ws a)/\(aN ws a).length<=c
theorem fv(h:aj (ws.length:Int)=false):bQ ws a=8:=by simp[bQ,h]
theorem jj(h:aj (ws.length:Int)=true)(h2:fc ws.length a=true):bQ ws a=2:=by simp[bQ,h,h2]
theorem eQ(h:aj (ws.length:Int)=true)(h2:fc ws.length a=false)(h3:blocks ws a.toNat=none):bQ ws a=50:=by simp[bQ,h,h2,h3]
theorem cF(h:aj (ws.length:Int)=true)(h2:fc ws.length a=false)(h3:blocks ws a.toNat=some l):bQ ws a=0/\aN ws a=l:=by
 have:bQ ws a=0:=by simp[bQ,h,h2,h3]
 exact⟨this,by simp[aN,this,h3]⟩
theorem jE(h:fc n a=false):128<=a/\a<=(n:Int)/\a%2=0:=by simp only[fc,kzl,kqh,kqq] at h;omega
theorem mQ(h:¬ (128<=a/\a<=(n:Int)/\a%2=0)):fc n a=true:=by
 cases b:fc n a with
 | true=>rfl
 | false=>exact absurd (jE b) h
theorem kI(hr:bQ ws a=r)(h0:r≠0):pG ws a (.returned (.tuple #[.slice none 0 0,.int .i64 r])) w':=by
 subst hr;have:aN ws a=[]:=by simp[aN,h0]
 exact⟨none,0,by rw[this];rfl,by rw[this];exact Rd.nil_,by rw[this];simp⟩
theorem Az(h0:bQ ws a=0)(hl:aN ws a=l)(h:w'.ownsRow H 55 6 v l.length (l.flatMap Bk.cells)):pG ws a (.returned (.tuple #[v,.int .i64 0])) w':=by
 have e:∃A c,v=.slice A l.length c/\l.length<=c:=by
  rcases h.2 with⟨rfl,d⟩|⟨g,cap,cur,rfl,_,_,b,_⟩
  .exact ⟨none,0,by rw[d],by omega⟩
  exact⟨_,_,rfl,b⟩
 obtain⟨A,c,rfl,b⟩:=e;exact⟨A,c,by rw[hl,h0],by rw[hl];exact Rd.of_own h,by rw[hl];exact b⟩
theorem kz:(prog.info? 55).map (λi=>(i.zero,i.size,i.bytes))=some (some (.agg #[.int .i64 0,.int .i64 0,.int .i64 0,.int .i64 0,.bool false,.int .u64 0]),6,48):=by kernel_rfl
theorem pD{sz:Nat}(hown:w.ownsRow H e sz v n xs):some w.heap.size≠v.ownBlock:=λh=>by have:=(hown.lt _ h.symm).2;omega
theorem ld(w:World)(cs:List Value)(t:TypeId)(h:w.heap.size=H):∀j u,cs[j]? = some u->(w.alloc (.cells cs.toArray t)).cell? ((⟨H,0,none⟩:Addr).add j)=some u:=by subst h;exact cC w cs t
theorem lU(A:Option Addr)(ws:List Nat)(c n:Nat)(a:Int)(w:World)(hn:ws.length=n)(hm:n<=9223372036854775807)(hr:RdW w w.heap.size A ws)(ho:∀x∈ws,x<18446744073709551616):
 Calls prog 65 #[.slice A n c,.int .i64 a] w λe w'=>pG ws a e w'/\Below w.heap.size w w':=by
 subst hn;have HR:=hid hr;have HO:=hid ho;clear hr ho;cases t:aj (ws.length:Int)
 .have R:=hid (bD t);have M:=hid (fv (a:=a) t);clear t;go_enter func65,ntmps65;go_wp2_with fail;refine (aE A ws.length c w hm).mono ?_;rintro e D ⟨rfl,rfl⟩;rw[R.out];go_wp2;go_ret2;exact⟨kI M.out (by omega),kql _ _⟩
 have R:=hid (aX t);have HS:=hid t;have hb:=km (aX t);obtain⟨h,hb2,J⟩:=hb;have Jg:=hid J;clear t hm J;by_cases d:128<=a/\a<=(ws.length:Int)/\a%2=0
 .obtain ⟨a1,a2,Z⟩:=d;have G:Hid (fc ws.length a=false):=hid (by
   simp only[fc,kzl,kqh,kqq];omega)
  have Jd:(a%2 != 0)=false:=by rw[kqq];exact Z
  have d1:decide (a<128)=false:=by rw[kqh];omega
  have d2:decide ((ws.length:Int)<a)=false:=by rw[kqh];omega
  have Jc:=hid Z;obtain⟨K,rfl⟩:=kq1 (show 0<=a by omega);have d2n:decide (ws.length<K)=false:=by rw[kqh];omega
  clear Z;obtain⟨i2,Y,I,m,O⟩:=kzv kz;have HJ:=hid Y;have Jf:=hid I;have Jb:=hid m;have Eq:=hid O;clear Y I m O;go_enter func65,ntmps65;go_wp2_with fail;refine (aE A ws.length c w (by omega)).mono ?_;rintro e D ⟨rfl,rfl⟩;rw[R.out];go_wp2_with fail;go_loopw [1,7] (λp v wr=>∃(i:Nat) (b:List Bk),p=.int .i64 i/\K<=i/\i<=ws.length/\i%2=0/\blocks ws K=(blocks ws i).map (b ++ ·)/\b.length<=i/\wr.ownsRow w.heap.size 55 6 v b.length (b.flatMap Bk.cells)/\Below w.heap.size w wr) (λp _ _=>ws.length-(intOf p).toNat)
  case atStart=>exact⟨K,[],rfl,kqd _,by omega,by have:=Jc.out;omega,by simp,by simp,kq8 _ _ _ _,kql _ _⟩
  obtain⟨i,b,rfl,q1,q2,q3,q4,q5,j,E⟩:=hrel;have T:=E.size;have Je:=hid q3;have B:=hid q4;clear q4;by_cases F:i<ws.length
  .have s:i+1<ws.length:=by have:=Jg.out;omega
   clear q3;have ik1:(i:Int)<(ws.length:Int):=by omega
   cases f:stands ws i
   .have HN:=hid (eQ HS.out G.out (by rw[kqj,B.out,db F f];rfl));obtain⟨H,Q⟩:=zd f;have k:=hid (mx A ws c ws.length i wr rfl (by omega) s (HR.out.up E T) HO.out);rw[H,Q] at k;unfold mf Bk.val at k;dsimp only at k;clear f H Q j;go_wp2_with fail;refine k.out.mono ?_;rintro e D ⟨rfl,o⟩;have h:=E.trans (o.mono T);go_wp2;go_ret2;exact⟨kI HN.out (by omega),h.alloc h.size _⟩
   have L:=aH f;obtain⟨H,Q⟩:=xI f;have k:=hid (mx A ws c ws.length i wr rfl (by omega) s (HR.out.up E T) HO.out);rw[H,Q] at k;have u:=hid (show blocks ws K=(blocks ws (i+szAt ws i)).map ((b++[bkAt ws i]) ++ ·) by
    rw[B.out,aL F f];cases blocks ws (i+szAt ws i)<;>simp)
   have N:=hid (ce Bk.cells b (bkAt ws i));have r:=bq ws i;obtain⟨x,hx⟩:=xq (bkAt ws i);obtain⟨z,P⟩:=xq (szAt ws i);rw[hx] at k u N r;rw[P] at u L r;have HX:=hid hx;obtain⟨V,xs,X,W,S,U⟩:=x;dsimp only at r;subst r;unfold Bk.val at k;dsimp only at k;obtain⟨z1,z2,z3⟩:=L;have Ja:=hid z2;clear f H Q hx P z2;go_wp2_with fail;refine k.out.mono ?_;rintro e D ⟨rfl,o⟩;have h:=E.trans (o.mono T);have g:=ai j o (kqd _);have m:=h.size;go_wp2_with (at_builtin;refine kzd _ rfl _ _ 48 rfl w.heap.size 55 i2 _ 6 48 underlying48 HJ.out Jf.out Jb.out Eq.out rfl (by decide) _ _ _ rfl ((g.alloc _).alloc _) ⟨_,0,none⟩ 1 1 [.int .i64 V,.int .i64 (z:Int),.int .i64 X,.int .i64 W,.bool S,.int .u64 (U:Int)] rfl rfl (ld _ _ _ (kqm _ _)) (by simp[Value.oneCell']) (by unfold maxLen;omega) (by omega) (by simp;omega) ?_;intro v1 w2 y C _;have q:Bx w2 D.heap.size 55 #[.int .i64 V,.int .i64 (z:Int),.int .i64 X,.int .i64 W,.bool S,.int .u64 (U:Int)]:=((Bx.new D 55 _).alloc _).grown C (pD g);have Jh:=aC (h.alloc m (.cells #[.int .i64 V,.int .i64 (z:Int),.int .i64 X,.int .i64 W,.bool S,.int .u64 (U:Int)] 55)) (by simp;omega) (g.alloc _) C;have hc1:w2.cell? ⟨D.heap.size,1,none⟩=some (.int .i64 (z:Int)):=q.cell 1;have hf1:=q.frozen 1;have hl1:=q.lt;clear C q);go_roundw
   case rel=>exact⟨i+z,b++[⟨V,(z:Int),X,W,S,U⟩],by rw[kjs],by omega,by omega,by have:=Je.out;have:=Ja.out;omega,u.out,by simp;omega,by rw[N.out,kqu];exact y,Jh⟩
   case measure=>simp[intOf];omega
  have Y:i=ws.length:=by omega
  have HD:=hid (cF HS.out G.out (l:=b) (by rw[kqj,B.out,aD (by omega)];simp));clear Y q3;go_wp2;go_ret2;exact⟨Az HD.out.1 HD.out.2 j,E⟩
 have M:=hid (jj HS.out (mQ d));go_enter func65,ntmps65;go_wp2_with fail;refine (aE A ws.length c w (by omega)).mono ?_;rintro e D ⟨rfl,rfl⟩;rw[R.out];by_cases h1:a<128
 .clear d;go_wp2;go_ret2;exact⟨kI M.out (by omega),kql _ _⟩
 by_cases h2:(ws.length:Int)<a
 .clear d;go_wp2;go_ret2;exact⟨kI M.out (by omega),kql _ _⟩
 have Jd:(a%2 != 0)=true:=by rw[kqv];omega
 have d1:decide (a<128)=false:=by rw[kqh];omega
 have d2:decide ((ws.length:Int)<a)=false:=by rw[kqh];omega
 have a0:0<=a:=by omega
 clear d;go_wp2;go_ret2;exact⟨kI M.out (by omega),kql _ _⟩
def EX:List Bk->Option Bk
 | []=>none
 | b::l=>if b.mark=true then some b else EX l
def fa (l:List Bk) (k:Nat):Prop:=∀j,j<k->(gk l j).mark=false
theorem nn(l:List Bk):fa l 0:=λj h=>absurd h (by omega)
theorem mK(h:fa l k)(h2:(gk l k).mark=false):fa l (k+1):=λj hj=>by
 rcases kq6 j k with a|a
 .exact h j a
 .have:j=k:=by omega
  subst this;exact h2
theorem Cn:∀ {l:List Bk},fa l l.length->EX l=none:=by
 intro l
 induction l with
 | nil=>intro _;rfl
 | cons b l ih =>intro h;have a:b.mark=false:=h 0 (by simp);simp only[EX,a,kzm,if_false];exact ih λj c=>by have:=h (j+1) (by simpa using c);rwa [iH] at this
theorem Gm:∀ {l:List Bk} {k:Nat},k<l.length->fa l k->(gk l k).mark=true->EX l=some (gk l k):=by
 intro l
 induction l with
 | nil=>intro k h;simp at h
 | cons b l ih =>
  intro k d h a;cases k with
  | zero =>rw[nh] at a |-;simp[EX,a]
  | succ k =>have c:b.mark=false:=h 0 (by omega);simp only[EX,c,kzm,if_false];rw[iH] at a |-;exact ih (by simpa using d) (λj hj=>by have:=h (j+1) (by omega);rwa [iH] at this) a
def bg (ws:List Nat) (a:Int):Int:=if bQ ws a=0 then (match EX (aN ws a) with | none=>6 | some _=>0) else bQ ws a
def ie (ws:List Nat) (a:Int):Bk:=if bQ ws a=0 then (EX (aN ws a)).getD mf else mf
theorem uS(h:bQ ws a=r)(h0:r≠0):ie ws a=mf/\bg ws a=r:=by subst h;simp[ie,bg,h0]
theorem Ce(h:bQ ws a=0)(hl:aN ws a=l)(hn:fa l l.length):ie ws a=mf/\bg ws a=6:=by subst hl;simp[ie,bg,h,Cn hn]
theorem te(h:bQ ws a=0)(hl:aN ws a=l)(hk:k<l.length)(hn:fa l k)(hm:(gk l k).mark=true):ie ws a=gk l k/\bg ws a=0:=by subst hl;simp[ie,bg,h,Gm hk hn hm]
theorem GF(h:bQ ws a=0)(hk:k<(aN ws a).length):(gk (aN ws a) k).kind==1 || !(gk (aN ws a) k).mark:=by
 unfold aN at hk |-;rw[if_pos h] at hk |-;unfold bQ at h;split at h
 .split at h
  .simp at h
  rename_i h2;have h3:=jE (by simpa using h2);cases b:blocks ws a.toNat with
  | none=>rw[b] at h;simp at h
  | some l =>
   rw[b] at hk;simp only[kq9] at hk |-;obtain⟨i,e,-,-,-,d,-⟩:=b9 _ _ b (by omega) k hk;have f:=(bA _).1 (fG d);rw[bN l k hk,e];show ((ar (wd ws i)).kind==1 || !(ar (wd ws i)).mark)=true;rcases f.2 with c|c
   .simp[c.1]
   simp[c.2.2.1]
 simp at h
theorem pI(a:Int):(a.tmod 2 != 0)=(a%2 != 0):=by
 have b:a.tmod 2=0↔a%2=0:=by
  constructor
  .intro h;have:=Int.dvd_of_tmod_eq_zero h;omega
  intro h;exact Int.tmod_eq_zero_of_dvd (Int.dvd_of_emod_eq_zero h)
 rw[kzg,kqv,kqv,ne_eq,ne_eq,b]
theorem EK(hbad:¬ (128<=a/\a<=(n:Int)/\a%2=0)):(a%2 != 0)=true/\(a.tmod 2 != 0)=true\/((a%2 != 0)=false/\(a.tmod 2 != 0)=false)/\a<128\/(a%2 != 0)=false/\128<=a/\(n:Int)<a:=by
 rw[pI];by_cases h:a%2=0
 .have:(a%2 != 0)=false:=by rw[kqq];exact h
  rw[this];by_cases b:a<128
  .exact .inr (.inl ⟨⟨rfl,rfl⟩,b⟩)
  exact .inr (.inr ⟨rfl,by omega,by omega⟩)
 have:(a%2 != 0)=true:=by rw[kqv];exact h
 rw[this];exact .inl ⟨rfl,rfl⟩
theorem gO(ws:List Nat)(a:Int):(aN ws a).length<=4611686018427387904:=by
 unfold aN;split
 .rename_i h;unfold bQ at h;split at h
  .rename_i h1;have hb:=(aa _).1 h1;split at h
   .simp at h
   rename_i h2;have h3:=jE (by simpa using h2);cases b:blocks ws a.toNat with
   | none=>simp
   | some l =>have:=(bG (by omega) _ _ b (by omega) (by omega) (by omega)).1;simp only[kq9];omega
  simp at h
 simp
end Go.Proofs.YtpcajamacpbjcaaGreat
