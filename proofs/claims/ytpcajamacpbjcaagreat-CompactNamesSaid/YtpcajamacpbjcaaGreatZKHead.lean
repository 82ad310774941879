/- Texts laid together: Arr Agg App Cut Img SumW FwbQ HdrW HdrX HdrY Walk From NxtP. -/
import Derived.Test.YtpcajamacpbjcaaGreatZKPlain
import Derived.Deep.MidRow
import Derived.Laws.Rows
import Derived.Laws.AppendOwnNone
import Derived.Laws.BitsAllLaws
import Derived.Laws.Shifts
import Derived.PlainAid
import Derived.Deep.RegionHeld3
import Derived.Deep.DrawnRows
set_option maxHeartbeats 16000000
set_option maxRecDepth 100000
set_option linter.all false
namespace Go.Proofs.YtpcajamacpbjcaaGreat
open Lib (hid)
open Go.RowKit
variable {ops:Array Oper}{b:Bk}{xm:Bool}{a r xa xk xt:Int}{l:List Bk}{ws:List Nat}{rest:List Oper}{xs:List Value}{B H g g' i k m n x xn:Nat}{o op:Oper}{dst:Option Tmp}{P:Program}{pos:String}{α:Type}{e t type:TypeId}{v:Value}{w w' w0:World}
open Go.Proofs.Tryz
theorem rC{cs:Array Value}(h:Bx w g t cs)(hv:cs[i]? = some v):w.setCell ⟨g,i,none⟩ v=w:=by
 have d:w.heap.modify g (fun | .cells c b a=>.cells (if (none:Option Nat).isSome then c else c.setIfInBounds i v) b a | o=>o)=w.heap:=by
  apply kko;intro j;rw[Array.getElem?_modify];split
  .rename_i e;subst e;rw[show w.heap[g]? = _ from h];simp only[kzt,kkp,kzs,if_false];congr 2;apply kko;intro k;rw[kxv];split
   .rename_i e;subst e;split
    .exact hv.symm
    rename_i hk;rw[kx4 (by omega)]
   rfl
  rfl
 have e:w.setCell ⟨g,i,none⟩ v={ w with heap:=w.heap.modify g (fun | .cells c b a=>.cells (if (none:Option Nat).isSome then c else c.setIfInBounds i v) b a | o=>o) }:=rfl;rw[e,d]
theorem qc{cs:Array Value}(h:Bx w g t cs):w.setCells g 0 cs.toList=w:=by
 have b:∀(vs:List Value) (o:Nat),(∀j v,vs[j]? = some v->cs[o+j]? = some v)->w.setCells g o vs=w:=by
  intro vs
  induction vs with
  | nil=>intro o _;rfl
  | cons v vs ih =>intro o a;simp only[World.setCells];rw[rC h (by have:=a 0 v rfl;simpa using this)];exact ih (o+1) (λj u c=>by have:=a (j+1) u (by simpa using c);rwa [show o+1+j=o+(j+1) by omega])
 exact b cs.toList 0 (λj v a=>by simpa using a)
theorem fq{a:Array Value}(h:Bx w g t a){cs:Array Value}(hs:cs.size=a.size):Bx (w.setCells g 0 cs.toList) g t cs:=by
 have m:∀(vs:List Value) (o:Nat) (w:World) (a:Array Value),Bx w g t a->o+vs.length=a.size ->
  ∃b,Bx (w.setCells g o vs) g t b/\b.size=a.size/\(∀j,j<o->b[j]? = a[j]?)/\∀j,j<vs.length->b[o+j]? = vs[j]?:=by
  intro vs
  induction vs with
  | nil=>intro o w a k _;exact⟨a,k,rfl,λ_ _=>rfl,λj c=>by simp at c⟩
  | cons v vs ih =>
   intro o w a k p;rw[kq1] at p;obtain⟨b,f,d,n,l⟩:=ih (o+1) _ _ (k.set_ o v) (by rw[kkk];omega);rw[kkk] at d;refine⟨b,f,d,λj c=>?_,λj c=>?_⟩
   .rw[n j (by omega),kxv,if_neg (by omega)]
   cases j with
   | zero=>rw[kz8,n o (by omega),kxv,if_pos rfl,if_pos (by omega)];rfl
   | succ j=>rw[show o+(j+1)=o+1+j by omega,l j (by simpa using c)];simp
 obtain⟨b,f,d,_,l⟩:=m cs.toList 0 w a h (by simpa using hs);have e:b=cs:=by
  apply kko;intro i;by_cases q:i<cs.size
  .have:=l i (by simpa using q);rw[kxd] at this;rw[this];simp
  rw[kx4 (by omega),kx4 (by omega)]
 rwa [e] at f
theorem aU(hg:B<=g)(vs:List Value):∀ {w a:World} {o:Nat},Below B w a->Below B w (a.setCells g o vs):=by
 induction vs with
 | nil=>intro w a o h;exact h
 | cons v vs ih=>intro w a o h;exact ih (h.setCell (p:=⟨g,o,none⟩) hg v)
theorem jB{cs:Array Value}(h:Bx w g t cs):w.there g 0 cs.size:=λj a=>by rw[kxd];exact⟨by rw[h.cell j];simp[a],h.frozen j⟩
theorem p9{i:TypeInfo}(ht:P.underlying t=some (.array n e))(he:P.info? e=some i)(hs:i.size=1)(hag:∀w,(isAgg e).run P w=.ok false w){cs:Array Value}(hk:k<n)(hv:cs[k]? = some v)(w:World):
 (Instr.index t (.agg cs) (.int .i64 (k:Int))).run P w=.ok v w:=by
 have a:(0:Int)<=(k:Int)/\(k:Int)<(n:Int):=by omega
 simp[Instr.index,asIntOf,run_underlying ht,a,sizeOf,typeInfo,he,hs,part,Sem.run_bind,hag,hv,Result.andThen];omega
theorem dj(hne:g'≠g)(vs:List Value):∀(w:World) (o:Nat),(w.setCells g o vs).heap[g']? = w.heap[g']?:=by
 induction vs with
 | nil=>intro w o;rfl
 | cons v vs ih=>intro w o;simp only[World.setCells];rw[ih];exact kkm w ⟨g,o,none⟩ v g' hne
theorem cD(vs:List Value):∀(w:World) (o:Nat),(w.setCells g o vs).heap.size=w.heap.size:=by
 induction vs with
 | nil=>intro w o;rfl
 | cons v vs ih=>intro w o;simp only[World.setCells];rw[ih,kz6]
def gY (w w':World) (g:Nat):Prop:=w'.heap.size=w.heap.size/\(∀g',g'≠g->w'.heap[g']? = w.heap[g']?)/\∀B,B<=g->Below B w w'
theorem gY.bx{cs:Array Value}(h:gY w w' g)(hb:Bx w g' t cs)(hne:g'≠g):Bx w' g' t cs:=(h.2.1 g' hne).trans hb
theorem gY.below(h:gY w w' g)(hb:Below B w0 w)(hB:B<=g):Below B w0 w':=hb.trans (h.2.2 B hB)
theorem ai{a:Act}{Q:Exit->Act->World->Prop}(hgd:op.guard=none)(ty:TypeId)(x y:Operand)(ho:op.op=.store ty x y)(g:Nat)(t:TypeId)(cs0 cs:Array Value)(hx:a.eval x=.pointer (some ⟨g,0,none⟩))(hy:a.eval y=.agg cs)(hb:Bx w g t cs0)(hs:cs.size=cs0.size)(hi:(P.info? ty).map (·.size)=some cs.size)(h1:cs.all (·.oneCell')=true)(h:∀W',Bx W' g t cs->gY w W' g->wpList P ops Q rest (a.put op.dst undef) W'):wpList P ops Q (op::rest) a w:=by
 have b:w.there g 0 cs.size:=by rw[hs];exact jB hb
 refine kjh hgd ty x y ho g 0 cs hx hy b hi h1 (h _ (fq hb hs) ⟨cD _ _ _,λg' c=>dj c _ _ _,λB d=>aU d _ (kqk _ _)⟩)
theorem aq{a:Act}{Q:Exit->Act->World->Prop}{after:Array Edge}{guard:Option (Nat × Bool)}(ty:TypeId)(x y:Operand)(h:wpList P ops Q ({ dst:=dst,op:=.store ty x y,type:=type,pos:=pos,after:=after,guard:=guard }::rest) a w):wpList P ops Q ({ dst:=dst,op:=.store ty x y,type:=type,pos:=pos,after:=after,guard:=guard }::rest) a w:=h
theorem aH{a:Act}{Q:Exit->Act->World->Prop}{after:Array Edge}{guard:Option (Nat × Bool)}(ty:TypeId)(x:Operand)(h:wpList P ops Q ({ dst:=dst,op:=.load ty x,type:=type,pos:=pos,after:=after,guard:=guard }::rest) a w):wpList P ops Q ({ dst:=dst,op:=.load ty x,type:=type,pos:=pos,after:=after,guard:=guard }::rest) a w:=h
theorem qq{a:Act}{Q:Exit->Act->World->Prop}(hgd:op.guard=none)(v:Value)(hv:(execOp a.eval op).run P w=.ok (.value v) w)(h:wpList P ops Q rest (a.put op.dst v) w):wpList P ops Q (op::rest) a w:=
 wpList_plain hgd λ_ b=>by
  unfold Oper.wp
  rw[hv]
  exact b _ _ h
theorem oP(x0 x1 x2 x3:Int)(m:Bool)(n:Int):(#[.int .i64 x0,.int .i64 x1,.int .i64 x2,.int .i64 x3,.bool m,.int .u64 n]:Array Value).all (·.oneCell')=true:=by simp[Value.oneCell']
theorem oX:(prog.info? 55).map (·.size)=some 6:=by kernel_rfl
theorem xe(w:World){a:Act}{Q:Exit->Act->World->Prop}(hgd:o.guard=none)(s x:Operand)(t:TypeId)(ho:o.op=.call { callee:=.builtin .append,args:=#[s,x],argTypes:=#[t,t] })(base:Nat)(e:TypeId)(i:TypeInfo)(z:Value)(size bytes:Nat)(ht:P.underlying t=some (.slice e))(hi:P.info? e=some i)(hz:i.zero=some z)(hsize:i.size=size)(hby:i.bytes=bytes)(hzs:z.cells.size=size)(hsz:0<size)(v:Value)(n:Nat)(xs:List Value)(hs:a.eval s=v)(hown:w.ownsRow base e size v n xs)(B:Nat)(A:Option Addr)(m c:Nat)(news:List Value)(hx:a.eval x=.slice A m c)(hc0:A=none->c=0)(hl:news.length=m*size)(hr:Rd w B A news)(g:∀u∈news,u.oneCell'=true)(h63:n+m<=maxLen)(hbytes:(n+m)*bytes<=140737488355328)(hbase:base<=w.heap.size)(h:∀d w',w'.ownsRow base e size d (n+m) (xs++news)->w.grownBy w' v.ownBlock->wpList P ops Q rest (a.put o.dst d) w'):wpList P ops Q (o::rest) a w:=by
 cases A with
 | none =>
  have F:news=[]:=by
   cases news with
   | nil=>rfl
   | cons u us =>obtain⟨b,l,g,_⟩:=hr (by simp);cases g
  subst F;have r:m=0:=by
   rcases kjr m with k|k
   .exact k
   have:=Nat.mul_pos k hsz;simp at hl;omega
  subst r;rw[hc0 rfl] at hx;exact wpList_append_own_none hgd s x t ho base e i size ht hi v n xs hs hown hx (h v w (by simpa using hown) (World.grownBy.refl w _))
 | some ad =>
  refine kzk w hgd s x t ho base e i z size bytes ht hi hz hsize hby hzs hsz v n xs hs hown ad m c news hx hl ?_ g h63 hbytes hbase (λd w' q y _=>h d w' q y);intro j u p;have f:news≠[]:=by intro e;subst e;simp at p
  obtain⟨b,l,e,_,E⟩:=hr f;cases e;obtain⟨C,D⟩:=kq7.1 p;have:=E j C;rw[D] at this;rw[<-this];congr 1;unfold Addr.add;split
  .simp_all
  rfl
theorem ft(w:World)(base:Nat)(e:TypeId)(size:Nat)(hb:base<=w.heap.size):(w.alloc (.cells #[] e)).ownsRow base e size (.slice (some ⟨w.heap.size,0,none⟩) 0 0) 0 []:=by refine⟨by simp,.inr ⟨w.heap.size,0,#[],rfl,hb,heap_alloc_new w _,kqa _,by simp[maxLen],by simp,by simp⟩⟩
theorem di{f:α->List Value}(h:∀x,∀u∈f x,u.oneCell'=true)(l:List α):∀u∈l.flatMap f,u.oneCell'=true:=by intro u b;obtain⟨x,_,a⟩:=kk4.1 b;exact h x u a
theorem Bk.one(b:Bk):∀u∈b.cells,u.oneCell'=true:=by intro u a;simp only[Bk.cells,kqt,kzb,or_false] at a;rcases a with rfl|rfl|rfl|rfl|rfl|rfl<;>rfl
theorem En.one(b:En):∀u∈b.cells,u.oneCell'=true:=by intro u a;simp only[En.cells,kqt,kzb,or_false] at a;rcases a with rfl|rfl<;>rfl
theorem mn(b:Nat):∀u∈aa b,u.oneCell'=true:=by intro u a;simp only[aa,kqt,kzb,or_false] at a;subst a;rfl
theorem eF(f:α->List Value)(sz:Nat)(hf:∀x,(f x).length=sz)(l:List α)(k j:Nat)(hj:j<sz)(x:α)(u:Value)(hk:∀y,l[k]? = some y->f x=(f y).set j u):
 (l.set k x).flatMap f=(l.flatMap f).set (k*sz+j) u:=by
 induction l generalizing k with
 | nil=>simp
 | cons y l ih =>
  cases k with
  | zero =>have:=hk y rfl;simp only[kqf,kzp,this,kvi,kxd];rw[List.set_append_left _ _ (by rw[hf];exact hj)]
  | succ k =>simp only[kqe,kzp];rw[ih k (λz a=>hk z (by simpa using a)),kk1 _ _ (by rw[hf,kjd];omega),hf];congr 2;rw[kjd];omega
theorem fB(f:α->List Value)(sz:Nat)(hf:∀x,(f x).length=sz)(l:List α)(n:Nat):(l.take n).flatMap f=(l.flatMap f).take (n*sz):=by
 induction l generalizing n with
 | nil=>simp
 | cons x l ih =>
  cases n with
  | zero=>simp
  | succ n =>rw[kxj,kzp,kzp,ih,List.take_append,hf];rw[kq5 (l:=f x) (by rw[hf,kjd];omega)];congr 2;rw[kjd];omega
theorem qD(f:α->List Value)(sz:Nat)(hf:∀x,(f x).length=sz)(l:List α)(n:Nat):(l.drop n).flatMap f=(l.flatMap f).drop (n*sz):=by
 induction l generalizing n with
 | nil=>simp
 | cons x l ih =>
  cases n with
  | zero=>simp
  | succ n =>rw[List.drop_succ_cons,kzp,ih,kk5,hf];rw[kx5 (l:=f x) (by rw[hf,kjd];omega),kzv];congr 1;rw[kjd];omega
theorem Rd.from_{off:Nat}(h:Rd w B (some ⟨g,off,none⟩) xs)(k:Nat):Rd w B (some ⟨g,off+k,none⟩) (xs.drop k):=λf=>by
 have d:k<xs.length:=by
  rcases kq6 k xs.length with c|c
  .exact c
  exact absurd (kkt c) f
 obtain⟨b,o2,e,i,l⟩:=h (by intro e;subst e;simp at d);cases e;refine⟨g,off+k,rfl,i,λj m=>?_⟩;have a:k+j<xs.length:=by simp at m;omega
 rw[kjx,kj2];exact l _ a
theorem nG(w:World)(base:Nat)(t ty e:TypeId)(i:TypeInfo)(size:Nat)(ht:P.underlying t=some (.slice e))(hi:P.info? e=some i)(v:Value)(n:Nat)(xs:List Value)(hown:w.ownsRow base e size v n xs)(c:Nat):(Builtin.append_ #[t,t] ty #[v,.slice none 0 c]).run P w=.ok v w:=by
 rcases hown.2 with⟨rfl,rfl⟩|⟨g,cap,cur,rfl,_,_,a,_⟩
 .simp[Builtin.append_,run_underlying ht,sizeOf,typeInfo,hi,Builtin.lenOf,Builtin.firstCells]
 simp[Builtin.append_,run_underlying ht,sizeOf,typeInfo,hi,Builtin.lenOf,Builtin.firstCells,a,storeCells]
theorem lZ(w:World){a:Act}{K:Act->World->Prop}{Q:Exit->Act->World->Prop}(s x:Operand)(t:TypeId)(ho:o.op=.call { callee:=.builtin .append,args:=#[s,x],argTypes:=#[t,t] })(base:Nat)(e:TypeId)(i:TypeInfo)(z:Value)(size bytes:Nat)(ht:P.underlying t=some (.slice e))(hi:P.info? e=some i)(hz:i.zero=some z)(hsize:i.size=size)(hby:i.bytes=bytes)(hzs:z.cells.size=size)(hsz:0<size)(v:Value)(n:Nat)(xs:List Value)(hs:a.eval s=v)(hown:w.ownsRow base e size v n xs)(B:Nat)(A:Option Addr)(m c:Nat)(news:List Value)(hx:a.eval x=.slice A m c)(hl:news.length=m*size)(hr:Rd w B A news)(k:∀u∈news,u.oneCell'=true)(h63:n+m<=maxLen)(hbytes:(n+m)*bytes<=140737488355328)(hbase:base<=w.heap.size)(h:∀f w',w'.ownsRow base e size f (n+m) (xs++news)->w.grownBy w' v.ownBlock->K (a.put o.dst f) w'):o.wp P a w K Q:=by
 cases A with
 | none =>
  have G:news=[]:=by
   cases news with
   | nil=>rfl
   | cons u us =>obtain⟨b,p,k,_⟩:=hr (by simp);cases k
  subst G;have y:m=0:=by
   rcases kjr m with l|l
   .exact l
   have:=Nat.mul_pos l hsz;simp at hl;omega
  subst y;have h:=h v w (by simpa using hown) (World.grownBy.refl w _);have d:=nG (P:=P) w base t o.type e i size ht hi v n xs hown c;unfold Oper.wp;simp[execOp,ho,resolve,invoke,builtin,hs,hx,d,Result.andThen];exact h
 | some ad =>
  refine wp_append_own w s x t ho base e i z size bytes ht hi hz hsize hby hzs hsz v n xs hs hown ad m c news hx hl ?_ k h63 hbytes hbase (λf w' r C _=>h f w' r C);intro j u q;have g:news≠[]:=by intro e;subst e;simp at q
  obtain⟨b,p,e,_,F⟩:=hr g;cases e;obtain⟨D,E⟩:=kq7.1 q;have:=F j D;rw[E] at this;rw[<-this];congr 1;unfold Addr.add;split
  .simp_all
  rfl
theorem bg(w:World){a:Act}{Q:Exit->Act->World->Prop}(hgd:Region.wanted o (yielded ops a.tmps)=true)(s x:Operand)(t:TypeId)(ho:o.op=.call { callee:=.builtin .append,args:=#[s,x],argTypes:=#[t,t] })(base:Nat)(e:TypeId)(i:TypeInfo)(z:Value)(size bytes:Nat)(ht:P.underlying t=some (.slice e))(hi:P.info? e=some i)(hz:i.zero=some z)(hsize:i.size=size)(hby:i.bytes=bytes)(hzs:z.cells.size=size)(hsz:0<size)(v:Value)(n:Nat)(xs:List Value)(hs:a.eval s=v)(hown:w.ownsRow base e size v n xs)(B:Nat)(A:Option Addr)(m c:Nat)(news:List Value)(hx:a.eval x=.slice A m c)(hl:news.length=m*size)(hr:Rd w B A news)(h1:∀u∈news,u.oneCell'=true)(h63:n+m<=maxLen)(hbytes:(n+m)*bytes<=140737488355328)(hbase:base<=w.heap.size)(h:∀b w',w'.ownsRow base e size b (n+m) (xs++news)->w.grownBy w' v.ownBlock->wpList P ops Q rest (a.put o.dst b) w'):wpList P ops Q (o::rest) a w:=
 wpList_step λ_ g=>by
  rw[if_pos hgd]
  exact lZ w s x t ho base e i z size bytes ht hi hz hsize hby hzs hsz v n xs hs hown B A m c news hx hl hr h1 h63 hbytes hbase λb w' d f=>g _ _ (h b w' d f)
theorem mV{a b:Bool}(h:a=b):Ending.returned (.bool a)=.returned (.bool b):=by rw[h]
theorem ub{b:Int}(h:a=b):Ending.returned (.int .i64 a)=.returned (.int .i64 b):=by rw[h]
def ap (w:Int):Bool:=decide (256<=w)&&(decide (w<=2048)&&w%8==0)
theorem ae(w:Int):ap w=true↔256<=w/\w<=2048/\w%8=0:=by simp[ap]
def nu (n:Nat):Int:=if ap (n:Int)=true then 0 else 8
theorem bG(h:ap (n:Int)=true):nu n=0:=by simp[nu,h]
theorem cn(h:ap (n:Int)=false):nu n=8:=by simp[nu,h]
theorem kc(h:nu n=0):256<=n/\n<=2048/\n%8=0:=by
 cases a:ap (n:Int) with
 | false=>rw[cn a] at h;cases h
 | true=>have:=(ae _).1 a;omega
theorem Cj(n:Nat)(w:World)(hn:n<=9223372036854775807):Calls prog 135 #[.int .i64 (n:Int)] w λe w'=>e=.returned (.bool (ap (n:Int)))/\w=w':=by
 have H:Hid (∀b:Bool,(b=true↔256<=n/\n<=2048/\n%8=0)->b=ap (n:Int)):=hid λb h=>by rw[kzq,ae,h];omega
 go_enter func135,ntmps135;go_wp2_with fail
 all_goals
  go_ret;exact⟨mV (H.out _ (by simp;omega)),rfl⟩
theorem aB(A:Option Addr)(n c:Nat)(w:World)(hn:n<=9223372036854775807):Calls prog 87 #[.slice A n c] w λe w'=>e=.returned (.int .i64 (nu n))/\w=w':=by
 cases a:ap (n:Int)
 all_goals
  first
   | have b:=hid (bG a)
   | have b:=hid (cn a)
  have d:=hid a;clear a;go_enter func87,ntmps87;go_wp2_with fail;refine (Cj n w hn).mono ?_;rintro e w1 ⟨rfl,rfl⟩;rw[d.out];go_wp2;go_ret;exact⟨by rw[b.out];rfl,rfl⟩
def EK (n:Nat):Bool:=(decide (400<n)&&decide (n<2040))||decide (2060<n)
theorem greatW_no(h:EK n=false):n<=400\/2040<=n/\n<=2060:=by simp only[EK,kzl,kk0,kqh] at h;omega
def bK (w k:Nat):Array Value:=((List.range 8).map λi=>Value.int .u8 (if i<k then ((iU w i:Nat):Int) else 0)).toArray
theorem bh(w k:Nat):(bK w k).size=8:=by simp[bK]
theorem eH(w k i:Nat)(h:i<8):(bK w k)[i]? = some (.int .u8 (if i<k then ((iU w i:Nat):Int) else 0)):=by simp[bK,h]
theorem nb(w k:Nat)(hk:k<8):(bK w k).setIfInBounds k (.int .u8 (iU w k:Nat))=bK w (k+1):=by
 apply kko;intro i;rw[kxv];by_cases h:i<8
 .rw[eH _ _ _ h,eH _ _ _ h];by_cases e:k=i
  .subst e;rw[if_pos rfl,if_pos (by rw[bh];exact h),if_pos (by omega)]
  rw[if_neg e];by_cases a:i<k
  .rw[if_pos a,if_pos (by omega)]
  rw[if_neg a,if_neg (by omega)]
 rw[if_neg (by omega),kx4 (by rw[bh];omega),kx4 (by rw[bh];omega)]
def ig:Array Value:=Array.replicate 8 (.int .u8 0)
theorem uH(w:Nat):ig=bK w 0:=by simp[ig,bK];rfl
theorem vC(w k:Nat):(w:Int)/2 ^ (8*k)%256=((iU w k:Nat):Int):=by rw[iU,show (256:Nat) ^ k=2 ^ (8*k) by rw[Nat.pow_mul]];rfl
theorem Fa:(prog.info? 308).map (·.size)=some 8:=by kernel_rfl
theorem mh:(prog.info? 5).map (λi=>(i.zero,i.size,i.bytes))=some (some (.int .u8 0),1,1):=by kernel_rfl
theorem Fx(w:World):(isAgg 5).run prog w=.ok false w:=by kernel_rfl
theorem kk(x k:Nat):(bK x k).all (·.oneCell')=true:=by rw[kkv];intro i a;rw[bh] at a;have h:=eH x k i a;rw[kja (by rw[bh];exact a)] at h;injection h with h;rw[h];rfl
theorem Bb(w:World):(zeroValue 308).run prog w=.ok (.agg ig) w:=by kernel_rfl
theorem F5(x:Nat)(w:World)(hx:x<18446744073709551616):
 Calls prog 288 #[.int .u64 (x:Int)] w λe w'=>e=.returned (.agg (bK x 8))/\Below w.heap.size w w':=by
 have hzv:=Bb;have hx0:(0:Int)<=(x:Int):=by omega
 clear hx;go_enter func288,ntmps288;go_wp2_with fail;go_loopw [4,5] (λi' i wr=>∃k:Nat,k<=8/\i=.int .i64 k/\Bx wr w.heap.size 308 ig/\Bx wr (w.heap.size+1) 308 (bK x k)/\Below w.heap.size w wr) (λ_ i _=>8-(intOf i).toNat)
 case atStart =>
  refine⟨0,kqy _,rfl,(Bx.new w _ _).alloc _,?_,((kqk _ _).alloc (kqa _) _).alloc (by simp) _⟩;have:=Bx.new (w.alloc (.cells ig 308)) 308 ig;rw[kqm] at this;rw[<-uH];exact this
 obtain⟨k,hk,rfl,j,d,q⟩:=hrel;have hz:=q.size;by_cases f:k<8
 .have s:=d.cell k;rw[eH _ _ _ f] at s;have hf:=d.frozen k;have a:=hid d;have n:=hid j;have ik0:(0:Int)<=(k:Int):=by omega
  have ik1:(k:Int)<8:=by omega
  clear j d;go_wp2_with fail;rw[vC];refine⟨⟨k+1,by omega,by go_num,n.out.far (p:=⟨w.heap.size+1,k,none⟩) (by dsimp only;omega) _,?_,q.setCell (p:=⟨w.heap.size+1,k,none⟩) (by dsimp only;omega) _⟩,by simp[intOf];omega⟩;rw[<-nb x k f];exact a.out.set_ k _
 obtain rfl:k=8:=by omega
 have m:(prog.info? 308).map (·.size)=some (bK x 8).size:=by rw[bh];exact Fa
 have l:=kk x 8;have b:=jB j;rw[show ig.size=(bK x 8).size by rw[bh];simp[ig]] at b;have h:=hid (fq j (cs:=bK x 8) (by rw[bh];simp[ig]));have a:=hid d;have g:=hid (aU (kqa _) (bK x 8).toList (o:=0) q);clear j d;obtain⟨cs,c⟩:=xq (bK x 8);have r:=hid c;rw[c] at m l b h a g;clear c;go_wp2_with (first
  | (refine kxc rfl _ _ rfl (w.heap.size+1) (by rfl) 308 cs (0,0) _ a.out underlying308 (by rfl) m ?_)
  | (refine kjh rfl _ _ _ rfl w.heap.size 0 cs (by rfl) (by rfl) b m l ?_))
 exact kqr (v:=.agg cs) (results_cell_row rfl _ _ w.heap.size _ cs (0,0) _ (by rfl) h.out underlying308 (by rfl) m) rfl ⟨by rw[r.out],g.out⟩
theorem l5(n:Nat):IntKind.u64.wrap (n:Int)=((n%18446744073709551616:Nat):Int):=by simp[IntKind.wrap,IntKind.bits,IntKind.signed]
theorem Ag(s:Nat)(A:Option Addr)(l:List Nat)(c n:Nat)(w:World)(hn:l.length=n)(hm:n<=2048)(hs:s<18446744073709551616)(hr:RdW w w.heap.size A l)(ho:∀x∈l,x<18446744073709551616):
 Calls prog 264 #[.int .u64 (s:Int),.slice A n c] w λe w'=>e=.returned (.tuple #[.int .u64 (aR s l:Nat),.int .i64 0])/\Below w.heap.size w w':=by
 subst hn;have W:=hid hr;have U:=hid ho;have T:=hid hs;clear hr ho hs;obtain⟨i0,O,u,v,m⟩:=kzw mh;have V:=hid O;have HZ0:=hid u;have C:=hid v;have HZ2:=hid m;clear O u v m;go_enter func264,ntmps264;go_wp2_with fail;go_loopw [0,15] (λH i wr=>∃k:Nat,k<=l.length/\i=.int .i64 k/\H=.int .u64 (aR s (l.take k):Nat)/\Below w.heap.size w wr) (λ_ i _=>l.length-(intOf i).toNat)
 case atStart=>exact⟨0,kqy _,rfl,rfl,kqk _ _⟩
 obtain⟨k,hk,rfl,rfl,z⟩:=hrel;have R:=z.size;by_cases d:k<l.length
 .obtain ⟨b,G,rfl,S,F⟩:=RdW.at_ W.out d;replace F:=(z.cell (p:=⟨b,G+k,none⟩) S).trans F;have Q:=hid (U.out l[k] (kqp d));have D:=hid (lY d s);obtain⟨x,J⟩:=xq (l[k]);rw[J] at F Q D;have M:=hid (ii T.out (l.take k));obtain⟨q,K⟩:=xq (aR s (l.take k));rw[K] at D M |-;clear J K;have ik1:(0:Int)<=(k:Int):=by omega
  have ik2:(k:Int)<(l.length:Int):=by omega
  go_wp2_with fail;refine (F5 x _ Q.out).mono ?_;rintro e w1 ⟨rfl,E⟩;have I:=z.trans (E.mono R);go_wp2_with fail;go_loopw [0,21] (λH i wr=>∃j:Nat,j<=8/\i=.int .i64 j/\H=.int .u64 (By q x j:Nat)/\Below w.heap.size w wr) (λ_ i _=>8-(intOf i).toNat)
  case atStart=>exact⟨0,kqy _,rfl,rfl,I⟩
  obtain⟨j,hj,rfl,rfl,o⟩:=hrel;by_cases f:j<8
  .have a:=eH x 8 j f;rw[if_pos f] at a;have r:=p9 (P:=prog) underlying308 V.out C.out Fx f a;have B:=qA x j;have t:=hid (rZ M.out x j);have g:Hid (By q x (j+1)=Ep (By q x j) (iU x j)):=hid rfl;obtain⟨p,N⟩:=xq (By q x j);obtain⟨y,L⟩:=xq (iU x j);rw[N] at t g |-;rw[L] at B r g;clear N L a;have h:=hid (u64_xor_nat p y t.out (by omega));have hxor:=h.out;go_wp2_with fail;refine⟨⟨j+1,by omega,by go_num,?_,o⟩,by simp[intOf];omega⟩;rw[g.out];unfold Ep;rw[<-l5,kkq];rfl
  obtain rfl:j=8:=by omega
  go_wp2;go_roundw
  case rel=>exact⟨k+1,by omega,by go_num,by rw[D.out];rfl,o⟩
  case measure=>simp[intOf];omega
 obtain rfl:k=l.length:=by omega
 rw[kzf];go_wp2;go_ret2;exact⟨rfl,z⟩
theorem oU(A:Option Addr)(l:List Nat)(c n:Nat)(w:World)(hn:l.length=n)(hm:n<=2048)(hr:RdW w w.heap.size A l)(ho:∀x∈l,x<18446744073709551616):
 Calls prog 222 #[.slice A n c] w λe w'=>e=.returned (.tuple #[.int .u64 (aR 14695981039346656037 l:Nat),.int .i64 0])/\Below w.heap.size w w':=by have h:=hid hr;have g:=hid ho;have f:=hid hn;clear hr ho hn;go_enter func222,ntmps222;go_wp2_with fail;refine (Ag 14695981039346656037 A l c n w f.out hm (by omega) h.out g.out).mono ?_;rintro e w1 ⟨rfl,d⟩;obtain⟨q,b⟩:=xq (aR 14695981039346656037 l);have a:=hid b;rw[b];clear b;go_wp2;go_ret2;exact⟨by rw[a.out];rfl,d⟩
theorem vG(s:Nat):s &&& 4294967295=s%4294967296:=by rw[show (4294967295:Nat)=2 ^ 32-1 from rfl,kxo]
theorem DX(w:World):Calls prog 224 #[.int .i64 0,.int .i64 32] w λe w'=>e=.returned (.int .u64 4294967295)/\w=w':=by go_enter func224,ntmps224;go_wp2;go_ret;exact⟨rfl,rfl⟩
theorem Gu(s:Nat)(w:World)(hs:s<18446744073709551616):Calls prog 223 #[.int .u64 (s:Int),.int .i64 0,.int .i64 32] w λe w'=>e=.returned (.tuple #[.int .u64 ((s%4294967296:Nat):Int),.int .i64 0])/\w=w':=by have b:=hid (u64_and_nat s 4294967295 hs (by omega));clear hs;go_enter func223,ntmps223;go_wp2_with fail;refine (DX w).mono ?_;rintro e w1 ⟨rfl,rfl⟩;have a:=b.out;rw[vG] at a;go_wp2;go_ret2;exact⟨by rw[<-a];rfl,rfl⟩
theorem v6(A:Option Addr)(l:List Nat)(c n:Nat)(w:World)(hn:l.length=n)(hm:n<=2048)(a:RdW w w.heap.size A l)(ho:∀x∈l,x<18446744073709551616):
 Calls prog 177 #[.slice A n c,.int .i64 32] w λe w'=>e=.returned (.tuple #[.int .u64 ((aR 14695981039346656037 l%4294967296:Nat):Int),.int .i64 0])/\Below w.heap.size w w':=by have k:=hid a;have j:=hid ho;have i:=hid hn;clear a ho hn;have h:=hid (ii (s:=14695981039346656037) (by omega) l);go_enter func177,ntmps177;go_wp2_with fail;refine (oU A l c n w i.out hm k.out j.out).mono ?_;rintro e w1 ⟨rfl,f⟩;obtain⟨q,d⟩:=xq (aR 14695981039346656037 l);have b:=hid d;rw[d] at h |-;clear d;go_wp2_with fail;refine (Gu q _ h.out).mono ?_;rintro e w2 ⟨rfl,rfl⟩;obtain⟨r,a⟩:=xq (q%4294967296);have g:=hid a;rw[a];clear a;go_wp2;go_ret2;exact⟨by rw[b.out,g.out];rfl,f⟩
theorem fg(n:Nat):sf n=ap (n:Int):=by rw[kzq,ae];simp only[sf,kqo,kzc,kqw];omega
def ah (ws:List Nat):Int:=if ap (ws.length:Int)=true then (match blocks ws 128 with | none=>50 | some l=>if l.all (du ws)=true then 0 else 50) else 8
def af (ws:List Nat):List Bk:=if ah ws=0 then (blocks ws 128).getD [] else []
theorem np(h:ap (ws.length:Int)=false):ah ws=8:=by simp[ah,h]
theorem wM(h:ap (ws.length:Int)=true)(h2:blocks ws 128=none):ah ws=50:=by simp[ah,h,h2]
theorem qg(h:ap (ws.length:Int)=true)(h2:blocks ws 128=some l)(h3:l.all (du ws)=false):ah ws=50:=by simp only[ah,h,h2,h3,if_true,kzs,if_false]
theorem fM(h:ap (ws.length:Int)=true)(h2:blocks ws 128=some l)(h3:l.all (du ws)=true):ah ws=0/\af ws=l:=by
 have:ah ws=0:=by simp only[ah,h,h2,h3,if_true]
 exact⟨this,by simp[af,this,h2]⟩
theorem ay(h:ah ws=0):ap (ws.length:Int)=true/\∃l,blocks ws 128=some l/\l.all (du ws)=true/\af ws=l:=by
 have b:=h;unfold ah at h;split at h
 .rename_i h1;refine⟨h1,?_⟩;cases a:blocks ws 128 with
  | none=>rw[a] at h;cases h
  | some l =>
   rw[a] at h;dsimp only at h;split at h
   .rename_i h2;exact⟨l,rfl,h2,by simp[af,b,a]⟩
   cases h
 cases h
theorem yO(ws:List Nat):ah ws=0\/ah ws=8\/ah ws=50:=by
 unfold ah;split
 .cases blocks ws 128 with
  | none=>simp
  | some l=>dsimp only;split<;>simp
 simp
def gM:List (Int × Int)->Int->Option Int
 | [],_=>none
 | m::l,a=>if m.1=a then some m.2 else gM l a
theorem Fy{l:List (Int × Int)}{p:Nat}(hp:p<l.length)(h:∀q (a:q<p),(l[q]'(by omega)).1≠l[p].1):gM l l[p].1=some l[p].2:=by
 induction l generalizing p with
 | nil=>simp at hp
 | cons m l ih =>
  cases p with
  | zero=>simp[gM]
  | succ p =>simp only[gM,kqc];rw[if_neg (by simpa using h 0 (by omega))];exact ih (by simpa using hp) (λq a=>by simpa using h (q+1) (by omega))
theorem vm(h:bT l=0)(s:Int)(hmn:m<=n)(hn:n<=l.length):aI (l.take m) s<=aI (l.take n) s:=by
 obtain⟨_,b⟩:=cV h
 induction n with
 | zero =>
  have:m=0:=by omega
  subst this;exact kk9 _
 | succ n ih =>
  rcases kq6 n m with a|a
  .have:m=n+1:=by omega
   subst this;exact kk9 _
  have h4:=ih a (by omega);have c:=(eE _).1 (dI b (show n<l.length by omega)).1;rw[bM l n (by omega)] at c;rw[gX (by omega)];split<;>omega
theorem vc :∀ {s:Int},az l s=[]->aI l s=s:=by
 induction l with
 | nil=>intro s _;rfl
 | cons b l ih =>
  intro s h;simp only[az,aI] at h |-;split at h
  .simp at h
  rename_i hb;rw[if_neg hb];exact ih h
theorem nL(s:Int)(hmn:m<=n):(az (l.take m) s).length<=(az (l.take n) s).length:=by
 have:l.take n=l.take m++(l.take n).drop m:=by
  conv=>lhs;rw[<-kz9 m (l.take n),kj6,kxa hmn]
 rw[this,fm,kqs];omega
theorem uT(h:bT l=0){s:Int}(hs:s<=nB l):(∀p (b:p<(az l s).length),((az l s)[p]).2<=((az l s)[p]).1/\gM (az l s) ((az l s)[p]).1=some ((az l s)[p]).2) /\
 (∀p q (d:q<(az l s).length) (e:p<q),((az l s)[p]'(by omega)).2<((az l s)[q]).2/\((az l s)[p]'(by omega)).1<((az l s)[q]).1)/\(∀(b:0<(az l s).length),((az l s)[0]).2=s):=by
 obtain⟨_,u⟩:=cV h;have f:∀p q (d:q<(az l s).length) (e:p<q),((az l s)[p]'(by omega)).2<((az l s)[q]).2/\((az l s)[p]'(by omega)).1<((az l s)[q]).1:=by
  intro p q d e;obtain⟨k,c,n,a,o⟩:=jx (show p<(az l s).length by omega);obtain⟨m,r,b1,g,b3⟩:=jx d;rw[kql (by omega)] at a g;have a:=Option.some.inj a;have g:=Option.some.inj g;have j:k<m:=by
   rcases kq6 k m with i|i
   .exact i
   have:=nL (l:=l) s i;omega
  have w:=vm h s (show k+1<=m by omega) (by omega);have v:=(eE _).1 (dI u c).1;rw[bM l k c] at v;rw[gX c,if_pos n] at w;have t:=lj h r j;rw[bM l k c,bM l m r] at t;rw[a,g];exact⟨by dsimp only;omega,t⟩
 refine⟨λp b=>?_,f,λb=>?_⟩
 .refine ⟨?_,Fy b (λq d=>by have:=(f q p b d).2;omega)⟩;obtain⟨k,c,n,a,o⟩:=jx b;rw[kql b] at a;rw[Option.some.inj a];have:=sI h hs c;rw[bM l k c] at this;exact this
 obtain⟨k,c,n,a,o⟩:=jx b;rw[kql b] at a;rw[Option.some.inj a];exact vc (kjf o)
def eG (l:List Bk):List Int:=(l.filter (·.mark)).map Bk.at_
theorem lv:∀ {l:List Bk},(∀b∈l,b.mark=true->b.kind=1)->∀s,eG l=(az l s).map Prod.fst:=by
 intro l
 induction l with
 | nil=>intro _ s;rfl
 | cons b l d =>
  intro h s;have d:=d (λc f=>h c (by simp[f]));cases a:b.mark with
  | true =>
   have e:aV b=true:=by simp[aV,a,h b (by simp) a]
   simp only[eG,kjg,a,if_true,kx9,az,e];congr 1;exact d (s+b.size)
  | false =>
   have e:aV b=false:=by simp[aV,a]
   simp only[eG,kjg,a,kzs,if_false,az,e];exact d s
theorem jq(h:blocks ws i=some l)(h2:i%2=0):∀b∈l,b.mark=true->b.kind=1:=by
 intro b j g;obtain⟨m,d,rfl⟩:=kq2 j;obtain⟨a,e,-,-,-,n,-⟩:=b9 _ _ h h2 m d;have k:=(bt _).1 (fE n);rw[e] at g |-;have f:(ar (wd ws a)).mark=true:=g;show (ar (wd ws a)).kind=1;rcases k.2 with c|c
 .exact c.1
 rw[f] at c;exact absurd c.2.2.1 (by simp)
theorem rQ{a:Bk}(h:aV a=aV b)(s:Int):bu a s=bu b s:=by unfold bu;rw[h]
theorem sW{a:Bk}(h:aV a=aV b)(h2:a.size=b.size)(s:Int):eU a s=eU b s:=by unfold eU;rw[h,h2]
theorem na:∀ {l:List Bk} {s:Int},aN (fwB l s) s=[]:=by
 intro l
 induction l with
 | nil=>intro s;rfl
 | cons b l ih =>
  intro s;simp only[fwB,aN];have c:aV (if b.kind=1 then { b with next:=bu b s } else b)=aV b:=by split<;>rfl
  have d:(if b.kind=1 then { b with next:=bu b s } else b).size=b.size:=by split<;>rfl
  have f:eU (if b.kind=1 then { b with next:=bu b s } else b) s=eU b s:=sW c d s;have e:bu (if b.kind=1 then { b with next:=bu b s } else b) s=bu b s:=rQ c s;rw[f,ih,e];by_cases a:b.kind=1
  .rw[if_pos a,if_neg (λh=>h.2 rfl)];rfl
  rw[if_neg a,if_neg (λh=>a h.1)];rfl
theorem zK{xs:List Nat}(hw:∀j,j<128->wd xs j=wd ws j)(hb:b.kind=1->tyA b+1<128)(s:Int):du xs (if b.kind=1 then { b with next:=bu b s } else b)=du ws b:=by
 by_cases a:b.kind=1
 .rw[if_pos a];have h2:=hb a;unfold du cK;show (b.kind != 1||(cw (wd xs (tyA b)) (wd xs (tyA b+1))&&b.size==((bZ (wd xs (tyA b)%256):Nat):Int)))=_;rw[hw _ (by omega),hw _ (by omega)]
 rw[if_neg a];have:(b.kind != 1)=true:=by rw[kqu];exact a
 simp[du,this]
theorem D7{xs:List Nat}(hw:∀j,j<128->wd xs j=wd ws j):∀ {l:List Bk} {s:Int},(∀b∈l,b.kind=1->tyA b+1<128)->(∀b∈l,0<=b.size)->l.all (du ws)=true->0<=s->bL xs (fwB l s) s=true/\(fwB l s).all (du xs)=true:=by
 intro l
 induction l with
 | nil=>intro s _ _ _ _;exact⟨rfl,rfl⟩
 | cons b l ih =>
  intro s i h f hs;simp only[List.all_cons,kqo] at f;have e:=zK hw (i b (by simp)) s;have m:aV (if b.kind=1 then { b with next:=bu b s } else b)=aV b:=by split<;>rfl
  have n:(if b.kind=1 then { b with next:=bu b s } else b).size=b.size:=by split<;>rfl
  obtain⟨d,o⟩:=ih (s:=eU b s) (λc g=>i c (by simp[g])) (λc g=>h c (by simp[g])) f.2 (by have:=h b (by simp);unfold eU;split<;>omega);refine⟨?_,by simp only[fwB,List.all_cons,e,f.1,o,kzx]⟩;simp only[fwB,bL,e,f.1,kzx,m,n];unfold eU at d |-;cases a:aV b with
  | true =>
   have k:b.kind=1:=by simp[aV] at a;exact a.1
   simp only[a,if_true] at d |-;rw[d,Bool.and_true,if_pos k];simp only[bu,a,if_true,kqw];omega
  | false =>simp only[a,kzs,if_false] at d |-;exact d
theorem ow(h:ah ws=0):∃l,blocks ws 128=some l/\af ws=l/\eC l 128=0/\aW (aj ws (aN l 128)) 128 128=0/\ia (aj ws (aN l 128)) 128 128=az l 128 /\
 ah (aj ws (aN l 128))=0/\af (aj ws (aN l 128))=fwB l 128/\aN (fwB l 128) 128=[]/\eG l=(az l 128).map Prod.fst:=by
 obtain⟨k,l,d,v,y⟩:=ay h;have o:=(ae _).1 k;have g:=kC (i:=128) (by omega) d (by omega) (by omega) (by omega) (s:=128) (by omega) (by omega) (by omega);obtain⟨hre,-⟩:=eO g;obtain⟨n,r⟩:=sR _ ws 128 l (kqa _) d 128;have c:(aj ws (aN l 128)).length=ws.length:=av _ _;obtain⟨p,w⟩:=D7 (xs:=aj ws (aN l 128)) (λj hj=>r j (by omega)) (l:=l) (s:=128) (jy d (by omega)) (λb o=>by
  obtain⟨m,u,rfl⟩:=kq2 o;obtain⟨a,e,-⟩:=b9 _ _ d (by omega) m u;rw[e,bC];omega) v (by omega)
 have f:aW (aj ws (aN l 128)) 128 128=0:=by
  rw[iy (l:=fwB l 128) (by rw[c,fg];exact k) ?_ n,if_pos p];rw[c];cases q:fJ ws.length 128 128 with
  | false=>rfl
  | true=>exact absurd (by omega) ((kO _ _ _).1 q)
 obtain⟨t,x⟩:=fM (by rw[c];exact k) n w;refine⟨l,d,y,g,f,?_,t,x,na,lv (jq d (by omega)) 128⟩;unfold ia;rw[if_pos f];show (match blocks (aj ws (aN l 128)) 128 with|none=>[] | some l=>az l 128)=_;rw[n];exact CW.2.1
theorem xZ :∀i l,blocks ws i=some l->∀s,(aN l s).Pairwise (λa b=>a.a<b.a):=by
 refine dJ _ (λi _ s=>List.Pairwise.nil) (λi l hi f g c s=>?_);have hsz:=aG f;simp only[aN];split
 .refine List.Pairwise.cons (λe d=>?_) (c _);have:=pK _ _ g _ e d;show (bkAt ws i).at_+1<e.a;rw[ab];omega
 exact c _
def kw (b:Bk):Int:=if jO b=true then 0 else 8
theorem jJ(h:jO b=true):kw b=0:=by simp[kw,h]
theorem pX(h:jO b=false):kw b=8:=by simp[kw,h]
theorem Gm{xs:Int}(h:(2<=xs/\xs%2=0)/\(xk=1/\0<=xt/\xt<8/\xs<=10\/xk=2/\xt=0/\xm=false/\xs<=1920)):(0:Int)=kw ⟨xa,xs,xk,xt,xm,xn⟩:=(jJ ((bt _).2 h)).symm
theorem Fq{xs:Int}(h:¬ ((2<=xs/\xs%2=0)/\(xk=1/\0<=xt/\xt<8/\xs<=10\/xk=2/\xt=0/\xm=false/\xs<=1920))):(8:Int)=kw ⟨xa,xs,xk,xt,xm,xn⟩:=
 (pX (by
  cases a:jO ⟨xa,xs,xk,xt,xm,xn⟩ with
  | false=>rfl
  | true=>exact absurd ((bt _).1 a) h)).symm
theorem qy(b:Bk)(w:World):Calls prog 165 #[b.val] w λe w'=>e=.returned (.int .i64 (kw b))/\Below w.heap.size w w':=by
 obtain⟨xa,xs,xk,xt,a,xn⟩:=b;unfold Bk.val;cases a
 all_goals
  go_enter func165,ntmps165;go_wp2_with fail
  all_goals
   go_ret;refine⟨?_,(kqk _ _).alloc (kqa _) _⟩;(try simp only[kqu,ne_eq,kqq,kx6,kvj,kqh,kzc] at *)
   first
    | (exfalso;omega)
    | exact ub (Gm (by simp only[reduceCtorEq,and_false,false_and,or_false,true_and];omega))
    | exact ub (Fq (by simp only[reduceCtorEq,and_false,false_and,or_false,true_and];omega))
def OfRes (b:Bk) (e:Ending):Prop:=∃a1 a2 a3 a4,e=.returned (.agg #[.int .u64 (kV b:Nat),a1,a2,a3,a4])
theorem j9{a:Nat}(ha:a<2 ^ i):a ||| x*2 ^ i=a+x*2 ^ i:=by rw[Nat.or_comm,nat_join i _ a (by simp) ha,kj1]
theorem uF{K M T S:Nat}{m:Int}(hK:K<256)(hM:M<=1)(hT:T<128)(hS:S<65536)(hm:m=((M*256:Nat):Int)):
 bits BinOp.or .u64 (bits BinOp.or .u64 (bits BinOp.or .u64 (K:Int) m) ((T:Int)*512)) ((S:Int)*65536)=((K+M*256+T*512+S*65536:Nat):Int):=by
 subst hm;have c:=u64_or_nat K (M*256) (by omega) (by omega);have e:K ||| M*256=K+M*256:=by rw[show M*256=M*2 ^ 8 from rfl,j9 hK]
 rw[e] at c;rw[c];have a:=u64_or_nat (K+M*256) (T*512) (by omega) (by omega);have d:K+M*256 ||| T*512=K+M*256+T*512:=by rw[show T*512=T*2 ^ 9 from rfl,j9 (by omega)]
 rw[d] at a;rw[show ((T:Int)*512)=((T*512:Nat):Int) by simp,a];have b:=u64_or_nat (K+M*256+T*512) (S*65536) (by omega) (by omega);have f:K+M*256+T*512 ||| S*65536=K+M*256+T*512+S*65536:=by rw[show S*65536=S*2 ^ 16 from rfl,j9 (by omega)]
 rw[f] at b;rw[show ((S:Int)*65536)=((S*65536:Nat):Int) by simp,b]
theorem mY(w:World)(cs:List Value)(t:TypeId):Rd (w.alloc (.cells cs.toArray t)) (w.heap.size+1) (some ⟨w.heap.size,0,none⟩) cs:=λ_ =>
 ⟨w.heap.size,0,rfl,by omega,λj a=>by
  have:=(Bx.new w t cs.toArray).cell j
  rw[kxd,this]
  simp[a]⟩
theorem hdOf_c(b:Bk)(w:World)(hb:jO b=true):Calls prog 166 #[b.val] w λe w'=>OfRes b e/\Below w.heap.size w w':=by
 obtain⟨c,a,d,h,f,i,h7⟩:=sM hb;clear hb;obtain⟨xa,xs,xk,xt,g,xn⟩:=b;dsimp only at *;obtain⟨K,rfl⟩:=kqz h;obtain⟨T,rfl⟩:=kqz f;obtain⟨S,rfl⟩:=kqz i;simp only[kqi] at c a d;unfold Bk.val;cases g
 all_goals
  go_enter func166,ntmps166;go_wp2_with fail
 .refine kqr (v:=.agg #[.int .u64 (bits BinOp.or .u64 (bits BinOp.or .u64 (bits BinOp.or .u64 (K:Int) 0) ((T:Int)*512)) ((S:Int)*65536)),.int .u64 (K:Int),.int .u64 (T:Int),.int .u64 (S:Int),.int .u64 0]) (by simp[results,results166,go_sem]) rfl ⟨?_,?_⟩
  .refine ⟨.int .u64 (K:Int),.int .u64 (T:Int),.int .u64 (S:Int),.int .u64 0,?_⟩;rw[uF (M:=0) c (by omega) a d (by simp)];rfl
  exact (((kqk _ _).alloc (kqa _) _).alloc (by simp) _).alloc (by simp;omega) _
 refine kqr (v:=.agg #[.int .u64 (bits BinOp.or .u64 (bits BinOp.or .u64 (bits BinOp.or .u64 (K:Int) 256) ((T:Int)*512)) ((S:Int)*65536)),.int .u64 (K:Int),.int .u64 (T:Int),.int .u64 (S:Int),.int .u64 1]) (by simp[results,results166,go_sem]) rfl ⟨?_,?_⟩
 .refine ⟨.int .u64 (K:Int),.int .u64 (T:Int),.int .u64 (S:Int),.int .u64 1,?_⟩;rw[uF (M:=1) c (by omega) a d (by simp)];rfl
 exact (((kqk _ _).alloc (kqa _) _).alloc (by simp) _).alloc (by simp;omega) _
theorem or32{t:Nat}(hx:x<4294967296)(ht:t<4294967296):bits BinOp.or .u64 (x:Int) ((t:Int)*4294967296)=((x+t*4294967296:Nat):Int):=by have h:=u64_or_nat x (t*4294967296) (by omega) (by omega);rw[show t*4294967296=t*2 ^ 32 from rfl,j9 (i:=32) (by omega)] at h;rw[<-h];simp
theorem Dk(x:Nat)(w:World)(hx:x<4294967296):Calls prog 167 #[.int .u64 (x:Int)] w λe w'=>e=.returned (.tuple #[.int .u64 ((x+iX x%4294967296*4294967296:Nat):Int),.int .i64 0])/\Below w.heap.size w w':=by
 have d:iX x%4294967296<4294967296:=kz4 _ (by omega);have b:=hid (or32 hx d);have i:=hid hx;have hx0:(0:Int)<=(x:Int):=by omega
 have j:Hid (aR 14695981039346656037 [x]=iX x):=hid rfl;clear hx;go_enter func167,ntmps167;go_wp2_with fail;have c:=mY w [.int .u64 (x:Int)] 53;refine (v6 _ [x] _ 1 _ rfl (by omega) (by rw[kqm];exact c) (by intro y h;simp at h;subst h;have:=i.out;omega)).mono ?_;rintro e w1 ⟨rfl,a⟩;rw[kqm] at a;have g:=ax a;rw[j.out];obtain⟨t,f⟩:=xq (iX x%4294967296);have k:=hid f;rw[f] at d b |-;clear f a c;go_wp2;go_ret2;exact⟨by rw[k.out,<-b.out];rfl,g⟩
def jn (b:Bk):Nat:=if jO b=true then da b else 0
theorem oL(b:Bk)(w:World):Calls prog 105 #[b.val] w λe w'=>e=.returned (.tuple #[.int .u64 (jn b:Nat),.int .i64 (kw b)])/\Below w.heap.size w w':=by
 cases c:jO b
 .have i:=hid (show jn b=0 by simp[jn,c]);have f:=hid (pX c);have d:=hid (λW=>qy b W);clear c;obtain⟨u,xs,A,r,C,s⟩:=b;unfold Bk.val at d |-;dsimp only at d |-;go_enter func105,ntmps105;go_wp2_with fail;refine (d.out _).mono ?_;rintro e x ⟨rfl,a⟩;rw[kqm] at a;rw[f.out];go_wp2;go_ret2;exact⟨by rw[i.out,f.out];rfl,ax a⟩
 have i:=hid (show jn b=kV b+iX (kV b)%4294967296*4294967296 by simp[jn,c,da]);have f:=hid (jJ c);have d:=hid (λW=>qy b W);have m:=hid (λW=>hdOf_c b W c);have p:=hid (tG c);clear c;obtain⟨q,j⟩:=xq (kV b);have t:=hid j;rw[j] at i p;clear j;obtain⟨u,xs,A,r,C,s⟩:=b;unfold Bk.val at d m |-;dsimp only at d m |-;go_enter func105,ntmps105;go_wp2_with fail;refine (d.out _).mono ?_;rintro e x ⟨rfl,a⟩;rw[kqm] at a;have h:=ax a;have o:=Bx.of_new a;obtain⟨c0,c1,c2,c3,c4,c5,-,hz⟩:=o.c6;rw[f.out];clear o a;go_wp2_with fail;refine (m.out _).mono ?_;rintro e w2 ⟨⟨z,y,B,v,rfl⟩,k⟩;have g:=h.trans (k.mono h.size);rw[t.out];have hfld:∀W,(Instr.field 231 (.agg #[.int .u64 (q:Int),z,y,B,v]) 0).run prog W=.ok (.int .u64 (q:Int)) W:=λ_=>by kernel_rfl
 go_wp2_with fail;refine (Dk q _ p.out).mono ?_;rintro e w3 ⟨rfl,l⟩;have n:=g.trans (l.mono g.size);rw[<-i.out];go_wp2;go_ret2;exact⟨by rw[f.out];rfl,n⟩
def nE:Bk:=⟨0,0,0,0,false,0⟩
def EY (w:Nat):Bk:=if aM w=true then ar w else nE
def nl (w:Nat):Int:=if aM w=true then 0 else 50
theorem nQ{w:Nat}(h:aM w=true):EY w=ar w/\nl w=0:=by simp[EY,nl,h]
theorem oE{w:Nat}(h:aM w=false):EY w=nE/\nl w=50:=by simp[EY,nl,h]
theorem se(hx:x<18446744073709551616)(hm:m=2 ^ k-1)(hk:m<18446744073709551616):bits BinOp.and .u64 (x:Int) (m:Int)=((x%2 ^ k:Nat):Int):=by rw[u64_and_nat x m hx hk,hm,kxo]
theorem sO(w:Nat)(hw:w<18446744073709551616):bits BinOp.and .u64 (w:Int) 255=((w%256:Nat):Int)/\bits BinOp.and .u64 ((w:Int)/256) 1=((w/256%2:Nat):Int)/\bits BinOp.and .u64 ((w:Int)/512) 127=((w/512%128:Nat):Int)/\bits BinOp.and .u64 ((w:Int)/65536) 65535=((w/65536%65536:Nat):Int):=
 ⟨se (k:=8) (m:=255) hw (by decide) (by omega),se (x:=w/256) (k:=1) (m:=1) (by omega) (by decide) (by omega),se (x:=w/512) (k:=7) (m:=127) (by omega) (by decide) (by omega),se (x:=w/65536) (k:=16) (m:=65535) (by omega) (by decide) (by omega)⟩
theorem bP{fn:Func}{p q:Tmp}(h:fn.results=#[.cell p 55,.tmp q])(tmps:Array Value){W:World}{v0 v1 v2 v3 v4 v5 u:Value}(hb:Bx W g t #[v0,v1,v2,v3,v4,v5])(hp:tmps.getD p undef=.pointer (some ⟨g,0,none⟩))(hq:tmps.getD q undef=u):
 (results fn tmps).run prog W=.ok (.tuple #[.agg #[v0,v1,v2,v3,v4,v5],u]) W:=by obtain⟨b,d,f,c,a,e,-,-⟩:=hb.c6;rw[kxl] at hp hq;simp[results,h,hp,hq,go_sem,b,d,f,c,a,e]
theorem mR(x:Nat)(w:World)(hx:x<18446744073709551616):Calls prog 172 #[.int .u64 (x:Int)] w λe w'=>e=.returned (.tuple #[(EY x).val,.int .i64 (nl x)])/\Below w.heap.size w w':=by
 obtain⟨O,X,N,e4⟩:=sO x hx;have k:=hid (λW=>oL (ar x) W);have y:Hid (kw (ar x)=0->jn (ar x)=x->EY x=ar x/\nl x=0):=hid λU P=>nQ (by
  have I:jO (ar x)=true:=by
   cases r:jO (ar x) with
   | true=>rfl
   | false=>rw[pX r] at U;cases U
  simp only[jn,I,if_true] at P;simp[aM,I,P])
 have n:Hid (kw (ar x)≠0\/jn (ar x)≠x->EY x=nE/\nl x=50):=hid λh=>oE (by
  cases r:jO (ar x) with
  | false=>simp[aM,r]
  | true =>
   rcases h with h|h
   .exact absurd (jJ r) h
   simp only[jn,r,if_true] at h;simp[aM,r,h])
 have hx0:(0:Int)<=(x:Int):=by omega
 have f:(ar x).val=.agg #[.int .i64 0,.int .i64 ((x/65536%65536:Nat):Int),.int .i64 ((x%256:Nat):Int),.int .i64 ((x/512%128:Nat):Int),.bool (x/256%2==1),.int .u64 0]:=rfl;have Z:x%256<256:=kz4 _ (by omega);have Y:x/256%2<2:=kz4 _ (by omega);have J:x/512%128<128:=kz4 _ (by omega);have m4:x/65536%65536<65536:=kz4 _ (by omega);rw[f] at k;have a:=hid f;have c:((((x/256%2:Nat):Int))==1)=(x/256%2==1):=by rw[kzq,kqw,kqw];omega
 obtain⟨K,hK⟩:=xq (x%256);obtain⟨M,hM⟩:=xq (x/256%2);obtain⟨T,L⟩:=xq (x/512%128);obtain⟨S,Q⟩:=xq (x/65536%65536);rw[hK] at O Z k a;rw[hM] at X Y c k a;rw[L] at N J k a;rw[Q] at e4 m4 k a;obtain⟨s,t⟩:=xq ((M==1));rw[t] at c k a;obtain⟨V,m⟩:=xq (jn (ar x));obtain⟨R,g⟩:=xq (kw (ar x));rw[m,g] at y n k;clear hx f hK hM L Q t m g;go_enter func172,ntmps172;go_wp2_with fail;have D:=(Bx.new w 55 #[.int .i64 0,.int .i64 0,.int .i64 0,.int .i64 0,.bool false,.int .u64 0]).alloc (.cells #[.int .i64 0,.int .i64 (S:Int),.int .i64 (K:Int),.int .i64 (T:Int),.bool s,.int .u64 0] 55);have E:=Bx.new (w.alloc (.cells #[.int .i64 0,.int .i64 0,.int .i64 0,.int .i64 0,.bool false,.int .u64 0] 55)) 55 #[.int .i64 0,.int .i64 (S:Int),.int .i64 (K:Int),.int .i64 (T:Int),.bool s,.int .u64 0];have i:Below w.heap.size w ((w.alloc (.cells #[.int .i64 0,.int .i64 0,.int .i64 0,.int .i64 0,.bool false,.int .u64 0] 55)).alloc (.cells #[.int .i64 0,.int .i64 (S:Int),.int .i64 (K:Int),.int .i64 (T:Int),.bool s,.int .u64 0] 55)):=((kqk _ _).alloc (kqa _) _).alloc (by simp) _;have C:((w.alloc (.cells #[.int .i64 0,.int .i64 0,.int .i64 0,.int .i64 0,.bool false,.int .u64 0] 55)).alloc (.cells #[.int .i64 0,.int .i64 (S:Int),.int .i64 (K:Int),.int .i64 (T:Int),.bool s,.int .u64 0] 55)).heap.size=w.heap.size+2:=by simp
 rw[kqm] at E;obtain⟨G,z⟩:∃G,(w.alloc (.cells #[.int .i64 0,.int .i64 0,.int .i64 0,.int .i64 0,.bool false,.int .u64 0] 55)).alloc (.cells #[.int .i64 0,.int .i64 (S:Int),.int .i64 (K:Int),.int .i64 (T:Int),.bool s,.int .u64 0] 55)=G:=⟨_,rfl⟩;rw[z] at D E i C |-;clear z;refine (k.out G).mono ?_;rintro e w1 ⟨rfl,d⟩;have q:=i.trans (d.mono i.size);obtain⟨c0,c1,c2,c3,c4,c5,o,cz⟩:=(D.up d (by omega)).c6;obtain⟨d0,d1,d2,d3,d4,d5,df,dz⟩:=(E.up d (by omega)).c6;have cf0:=o 0;have cf1:=o 1;have cf2:=o 2;have cf3:=o 3;have cf4:=o 4;have cf5:=o 5;have H:=hid (D.up d (by omega));clear D E d i C o df O X N e4 c Z Y J m4;by_cases g:R=0
 .by_cases m:V=x
  .obtain ⟨l,j⟩:=y.out g m;have B:=hid l;have A:=hid j;have u:(R != 0)=false:=by rw[kqq];exact g
   have F:((V:Int) != (x:Int))=false:=by rw[kqq];omega
   clear g m l j;go_wp2_with fail;refine kqr (v:=.tuple #[.agg #[.int .i64 0,.int .i64 (S:Int),.int .i64 (K:Int),.int .i64 (T:Int),.bool s,.int .u64 0],.int .i64 0]) (bP results172 _ ((((((H.out.set_ 0 _).set_ 1 _).set_ 2 _).set_ 3 _).set_ 4 _).set_ 5 _) rfl rfl) rfl ⟨by rw[B.out,A.out,a.out],?_⟩;exact (kzi (p:=⟨w.heap.size,5,none⟩) (kzi (p:=⟨w.heap.size,4,none⟩) (kzi (p:=⟨w.heap.size,3,none⟩) (kzi (p:=⟨w.heap.size,2,none⟩) (kzi (p:=⟨w.heap.size,1,none⟩) (kzi (p:=⟨w.heap.size,0,none⟩) q (kqa _) _) (kqa _) _) (kqa _) _) (kqa _) _) (kqa _) _) (kqa _) _)
  obtain⟨l,j⟩:=n.out (.inr m);have B:=hid l;have A:=hid j;have u:(R != 0)=false:=by rw[kqq];exact g
  have F:((V:Int) != (x:Int))=true:=by rw[kqu];omega
  clear g m l j;go_wp2_with fail;refine kqr (v:=.tuple #[.agg #[.int .i64 0,.int .i64 0,.int .i64 0,.int .i64 0,.bool false,.int .u64 0],.int .i64 50]) (bP results172 _ ((((((H.out.set_ 0 _).set_ 1 _).set_ 2 _).set_ 3 _).set_ 4 _).set_ 5 _) rfl rfl) rfl ⟨by rw[B.out,A.out];rfl,?_⟩;exact (kzi (p:=⟨w.heap.size,5,none⟩) (kzi (p:=⟨w.heap.size,4,none⟩) (kzi (p:=⟨w.heap.size,3,none⟩) (kzi (p:=⟨w.heap.size,2,none⟩) (kzi (p:=⟨w.heap.size,1,none⟩) (kzi (p:=⟨w.heap.size,0,none⟩) q (kqa _) _) (kqa _) _) (kqa _) _) (kqa _) _) (kqa _) _) (kqa _) _)
 obtain⟨l,j⟩:=n.out (.inl g);have B:=hid l;have A:=hid j;have u:(R != 0)=true:=by rw[kqu];exact g
 clear g l j;go_wp2_with fail;refine kqr (v:=.tuple #[.agg #[.int .i64 0,.int .i64 0,.int .i64 0,.int .i64 0,.bool false,.int .u64 0],.int .i64 50]) (bP results172 _ ((((((H.out.set_ 0 _).set_ 1 _).set_ 2 _).set_ 3 _).set_ 4 _).set_ 5 _) rfl rfl) rfl ⟨by rw[B.out,A.out];rfl,?_⟩;exact (kzi (p:=⟨w.heap.size,5,none⟩) (kzi (p:=⟨w.heap.size,4,none⟩) (kzi (p:=⟨w.heap.size,3,none⟩) (kzi (p:=⟨w.heap.size,2,none⟩) (kzi (p:=⟨w.heap.size,1,none⟩) (kzi (p:=⟨w.heap.size,0,none⟩) q (kqa _) _) (kqa _) _) (kqa _) _) (kqa _) _) (kqa _) _) (kqa _) _)
def stB (ws:List Nat) (a:Nat):Bk:=if stands ws a=true then bkAt ws a else nE
def sY (ws:List Nat) (a:Nat):Int:=if stands ws a=true then 0 else 50
theorem Gv{a:Nat}(h:stands ws a=true):stB ws a=bkAt ws a/\sY ws a=0:=by simp[stB,sY,h]
theorem Fn{a:Nat}(h:stands ws a=false):stB ws a=nE/\sY ws a=50:=by simp[stB,sY,h]
theorem d7(h:i<ws.length):wd ws i=ws[i]:=by simp[wd,h]
theorem gu(ho:∀x∈ws,x<18446744073709551616)(i:Nat):wd ws i<18446744073709551616:=by
 by_cases h:i<ws.length
 .rw[d7 h];exact ho _ (kqp h)
 simp[wd,h]
theorem qF{x0 x1 x2 x3 x4 x5:Value}(h:Bx w g t #[x0,x1,x2,x3,x4,x5])(u0 u1 u2 u3 u4 u5:Value):
 Bx ((((((w.setCell ⟨g,0,none⟩ u0).setCell ⟨g,1,none⟩ u1).setCell ⟨g,2,none⟩ u2).setCell ⟨g,3,none⟩ u3).setCell ⟨g,4,none⟩ u4).setCell ⟨g,5,none⟩ u5) g t #[u0,u1,u2,u3,u4,u5]:=
 (((((h.set_ 0 u0).set_ 1 u1).set_ 2 u2).set_ 3 u3).set_ 4 u4).set_ 5 u5
theorem jc(h:Below B w0 w)(hg:B<=g)(u0 u1 u2 u3 u4 u5:Value):
 Below B w0 ((((((w.setCell ⟨g,0,none⟩ u0).setCell ⟨g,1,none⟩ u1).setCell ⟨g,2,none⟩ u2).setCell ⟨g,3,none⟩ u3).setCell ⟨g,4,none⟩ u4).setCell ⟨g,5,none⟩ u5):=
 (((((h.setCell (p:=⟨g,0,none⟩) hg u0).setCell (p:=⟨g,1,none⟩) hg u1).setCell (p:=⟨g,2,none⟩) hg u2).setCell (p:=⟨g,3,none⟩) hg u3).setCell (p:=⟨g,4,none⟩) hg u4).setCell (p:=⟨g,5,none⟩) hg u5
theorem mu(A:Option Addr)(ws:List Nat)(c n a:Nat)(w:World)(hn:ws.length=n)(hm:n<=1000000)(ha:a+1<n)(hr:RdW w w.heap.size A ws)(ho:∀x∈ws,x<18446744073709551616):
 Calls prog 112 #[.slice A n c,.int .i64 (a:Int)] w λe w'=>e=.returned (.tuple #[(stB ws a).val,.int .i64 (sY ws a)])/\Below w.heap.size w w':=by
 subst hn;have HR:=hid hr;have s:=gu ho a;have g:=hid (λW=>mR (wd ws a) W s);obtain⟨b,q,rfl,hb,Y⟩:=RdW.at_ hr (show a<ws.length by omega);obtain⟨b',off',e',-,V⟩:=RdW.at_ hr ha;cases e';rw[<-d7] at Y V;have ik0:(0:Int)<=(a:Int):=by omega
 have ik1:(a:Int)<(ws.length:Int):=by omega
 have ik2:(a:Int)+1<(ws.length:Int):=by omega
 have ik3:(0:Int)<=(a:Int)+1:=by omega
 have htn:((a:Int)+1).toNat=a+1:=by omega
 have j:(ar (wd ws a)).val=.agg #[.int .i64 0,.int .i64 ((szAt ws a:Nat):Int),.int .i64 ((wd ws a%256:Nat):Int),.int .i64 ((wd ws a/512%128:Nat):Int),.bool (wd ws a/256%2==1),.int .u64 0]:=rfl;have r:(bkAt ws a).val=.agg #[.int .i64 (a:Int),.int .i64 ((szAt ws a:Nat):Int),.int .i64 ((wd ws a%256:Nat):Int),.int .i64 ((wd ws a/512%128:Nat):Int),.bool (wd ws a/256%2==1),.int .u64 ((wd ws (a+1):Nat):Int)]:=rfl;have U:szAt ws a<65536:=kz4 _ (by omega);have k:Hid (stands ws a=(aM (wd ws a)&&decide ((szAt ws a:Int)<=(ws.length:Int)-a))):=hid rfl;have C:Hid (stands ws a=false->stB ws a=nE/\sY ws a=50):=hid Fn;have Z:Hid (stands ws a=true->stB ws a=bkAt ws a/\sY ws a=0):=hid Gv;cases t:aM (wd ws a)
 .obtain ⟨m,l⟩:=C.out (by rw[k.out,t];rfl);obtain⟨z,I⟩:=oE t;rw[z,I] at g;have L:=hid m;have J:=hid l;clear hr j r t m l z I s;unfold Bk.val nE at g;dsimp only at g;obtain⟨x,s⟩:=xq (wd ws a);rw[s] at Y g;clear s;go_enter func112,ntmps112;go_wp2_with fail;refine (g.out _).mono ?_;rintro e Q ⟨rfl,d⟩;rw[kqm] at d;have i:=Bx.of_new d;have h:=ax d;have P:=hid i;obtain⟨c0,c1,c2,c3,c4,c5,f,cz⟩:=i.c6;have G:=f 0;have H:=f 1;have D:=f 2;have F:=f 3;have u:=f 4;have E:=f 5;clear i f d;go_wp2_with fail;refine kqr (v:=.tuple #[.agg #[.int .i64 0,.int .i64 0,.int .i64 0,.int .i64 0,.bool false,.int .u64 0],.int .i64 50]) (bP results112 _ ((qF P.out _ _ _ _ _ _).alloc _) rfl rfl) rfl ⟨by rw[L.out,J.out];rfl,(jc h (kqa _) _ _ _ _ _ _).alloc (by simp;have:=h.size;omega) _⟩
 obtain⟨z,I⟩:=nQ t;rw[z,I,j] at g;have o:=hid r;obtain⟨S,R⟩:=xq (szAt ws a);obtain⟨K,hK⟩:=xq (wd ws a%256);obtain⟨T,hT⟩:=xq (wd ws a/512%128);obtain⟨M,hM⟩:=xq ((wd ws a/256%2==1));rw[R,hK,hT,hM] at g o;rw[R] at U k;rw[t,kzx] at k;obtain⟨x,B⟩:=xq (wd ws a);obtain⟨y,O⟩:=xq (wd ws (a+1));rw[B] at Y g;rw[O] at V o;clear hr j r t z I s R hK hT hM B O;by_cases N:(ws.length:Int)-a<S
 .obtain ⟨m,l⟩:=C.out (by rw[k.out,kqh];omega);have L:=hid m;have J:=hid l;clear m l;go_enter func112,ntmps112;go_wp2_with fail;refine (g.out _).mono ?_;rintro e Q ⟨rfl,d⟩;rw[kqm] at d;have i:=Bx.of_new d;have h:=ax d;have P:=hid i;obtain⟨c0,c1,c2,c3,c4,c5,f,cz⟩:=i.c6;have G:=f 0;have H:=f 1;have D:=f 2;have F:=f 3;have u:=f 4;have E:=f 5;clear i f d;go_wp2_with fail;refine kqr (v:=.tuple #[.agg #[.int .i64 0,.int .i64 0,.int .i64 0,.int .i64 0,.bool false,.int .u64 0],.int .i64 50]) (bP results112 _ ((qF P.out _ _ _ _ _ _).alloc _) rfl rfl) rfl ⟨by rw[L.out,J.out];rfl,(jc h (kqa _) _ _ _ _ _ _).alloc (by simp;have:=h.size;omega) _⟩
 obtain⟨m,l⟩:=Z.out (by rw[k.out,kq0];omega);have L:=hid m;have J:=hid l;have hle:(S:Int)<=(ws.length:Int)-a:=by omega
 clear m l N;go_enter func112,ntmps112;go_wp2_with fail;refine (g.out _).mono ?_;rintro e Q ⟨rfl,d⟩;rw[kqm] at d;have i:=Bx.of_new d;have h:=ax d;have P:=hid i;obtain⟨c0,c1,c2,c3,c4,c5,f,cz⟩:=i.c6;have G:=f 0;have H:=f 1;have D:=f 2;have F:=f 3;have u:=f 4;have E:=f 5;clear i f d;have hbw:b<Q.heap.size:=by have:=h.size;omega
 have Eq:=(h.cell (p:=⟨b,q+(a+1),none⟩) hb).trans V;have hwr:IntKind.i64.wrap ((a:Int)+1)=(a:Int)+1:=kqv _ (by omega);go_wp2_with fail;have hne:=World.new_ne Q ⟨b,q+(a+1),none⟩ Eq
 go_region_held3 (λX:World=>X.cell? ⟨b,q+(a+1),none⟩=some (.int .u64 (y:Int))) (go_keep) (fail)
 all_goals
  go_wp2_with fail;refine kqr (v:=.tuple #[.agg #[.int .i64 (a:Int),.int .i64 (S:Int),.int .i64 (K:Int),.int .i64 (T:Int),.bool M,.int .u64 (y:Int)],.int .i64 0]) (bP results112 _ (show Bx (World.drew _) _ _ _ from (qF P.out _ _ _ _ _ _).alloc _) rfl rfl) rfl ⟨by rw[L.out,J.out,o.out],((jc h (kqa _) _ _ _ _ _ _).alloc (by simp;have:=h.size;omega) _).drew⟩
def eY (n:Nat) (a:Int):Bool:=decide (a<128)||(decide ((n:Int)<a)||a%2 != 0)
def bJ (ws:List Nat) (a:Int):Int:=if ap (ws.length:Int)=true then (if eY ws.length a=true then 2 else (match blocks ws a.toNat with | none=>50 | some _=>0)) else 8
def aJ (ws:List Nat) (a:Int):List Bk:=if bJ ws a=0 then (blocks ws a.toNat).getD [] else []
def pp (ws:List Nat) (a:Int) (e:Ending) (w':World):Prop:=∃A c,e=.returned (.tuple #[.slice A (aJ ws a).length c,.int .i64 (bJ ws a)])/\RdB w' w'.heap.size A (aJ ws a)/\(aJ ws a).length<=c
theorem fp(h:ap (ws.length:Int)=false):bJ ws a=8:=by simp[bJ,h]
theorem jo(h:ap (ws.length:Int)=true)(h2:eY ws.length a=true):bJ ws a=2:=by simp[bJ,h,h2]
theorem eN(h:ap (ws.length:Int)=true)(h2:eY ws.length a=false)(h3:blocks ws a.toNat=none):bJ ws a=50:=by simp[bJ,h,h2,h3]
theorem cy(h:ap (ws.length:Int)=true)(h2:eY ws.length a=false)(h3:blocks ws a.toNat=some l):bJ ws a=0/\aJ ws a=l:=by
 have:bJ ws a=0:=by simp[bJ,h,h2,h3]
 exact⟨this,by simp[aJ,this,h3]⟩
theorem jG(h:eY n a=false):128<=a/\a<=(n:Int)/\a%2=0:=by simp only[eY,kzl,kqh,kqq] at h;omega
theorem nk(h:¬ (128<=a/\a<=(n:Int)/\a%2=0)):eY n a=true:=by
 cases b:eY n a with
 | true=>rfl
 | false=>exact absurd (jG b) h
theorem kN(hr:bJ ws a=r)(h0:r≠0):pp ws a (.returned (.tuple #[.slice none 0 0,.int .i64 r])) w':=by
 subst hr;have:aJ ws a=[]:=by simp[aJ,h0]
 exact⟨none,0,by rw[this];rfl,by rw[this];exact Rd.nil_,by rw[this];simp⟩
theorem xx(h0:bJ ws a=0)(hl:aJ ws a=l)(h:w'.ownsRow H 55 6 v l.length (l.flatMap Bk.cells)):pp ws a (.returned (.tuple #[v,.int .i64 0])) w':=by
 have e:∃A c,v=.slice A l.length c/\l.length<=c:=by
  rcases h.2 with⟨rfl,d⟩|⟨g,cap,cur,rfl,_,_,b,_⟩
  .exact ⟨none,0,by rw[d],by omega⟩
  exact⟨_,_,rfl,b⟩
 obtain⟨A,c,rfl,b⟩:=e;exact⟨A,c,by rw[hl,h0],by rw[hl];exact Rd.of_own h,by rw[hl];exact b⟩
theorem pt:(prog.info? 55).map (λi=>(i.zero,i.size,i.bytes))=some (some (.agg #[.int .i64 0,.int .i64 0,.int .i64 0,.int .i64 0,.bool false,.int .u64 0]),6,48):=by kernel_rfl
theorem sL{sz:Nat}(hown:w.ownsRow H e sz v n xs):some w.heap.size≠v.ownBlock:=λh=>by have:=(hown.lt _ h.symm).2;omega
theorem oK(w:World)(cs:List Value)(t:TypeId)(h:w.heap.size=H):∀j u,cs[j]? = some u->(w.alloc (.cells cs.toArray t)).cell? ((⟨H,0,none⟩:Addr).add j)=some u:=by subst h;exact dd w cs t
theorem lR(A:Option Addr)(ws:List Nat)(c n:Nat)(a:Int)(w:World)(hn:ws.length=n)(hm:n<=9223372036854775807)(hr:RdW w w.heap.size A ws)(ho:∀x∈ws,x<18446744073709551616):
 Calls prog 65 #[.slice A n c,.int .i64 a] w λe w'=>pp ws a e w'/\Below w.heap.size w w':=by
 subst hn;have HR:=hid hr;have HO:=hid ho;clear hr ho;cases B:ap (ws.length:Int)
 .have X:=hid (cn B);have M:=hid (fp (a:=a) B);clear B;go_enter func65,ntmps65;go_wp2_with fail;refine (aB A ws.length c w hm).mono ?_;rintro e y ⟨rfl,rfl⟩;rw[X.out];go_wp2;go_ret2;exact⟨kN M.out (by omega),kqk _ _⟩
 have X:=hid (bG B);have HS:=hid B;have hb:=kc (bG B);obtain⟨h,hb2,K⟩:=hb;have Eq:=hid K;clear B hm K;by_cases d:128<=a/\a<=(ws.length:Int)/\a%2=0
 .obtain ⟨a1,a2,a3⟩:=d;have N:Hid (eY ws.length a=false):=hid (by
   simp only[eY,kzl,kqh,kqq];omega)
  have Ja:(a%2 != 0)=false:=by rw[kqq];exact a3
  have d1:decide (a<128)=false:=by rw[kqh];omega
  have d2:decide ((ws.length:Int)<a)=false:=by rw[kqh];omega
  have Jb:=hid a3;obtain⟨O,rfl⟩:=kqz (show 0<=a by omega);have d2n:decide (ws.length<O)=false:=by rw[kqh];omega
  clear a3;obtain⟨i2,T,H,o,G⟩:=kzw pt;have HJ:=hid T;have Jg:=hid H;have Jd:=hid o;have Je:=hid G;clear T H o G;go_enter func65,ntmps65;go_wp2_with fail;refine (aB A ws.length c w (by omega)).mono ?_;rintro e y ⟨rfl,rfl⟩;rw[X.out];go_wp2_with fail;go_loopw [1,7] (λp v wr=>∃(i:Nat) (b:List Bk),p=.int .i64 i/\O<=i/\i<=ws.length/\i%2=0/\blocks ws O=(blocks ws i).map (b ++ ·)/\b.length<=i/\wr.ownsRow w.heap.size 55 6 v b.length (b.flatMap Bk.cells)/\Below w.heap.size w wr) (λp _ _=>ws.length-(intOf p).toNat)
  case atStart=>exact⟨O,[],rfl,kqa _,by omega,by have:=Jb.out;omega,by simp,by simp,kza _ _ _ _,kqk _ _⟩
  obtain⟨i,b,rfl,q1,q2,q3,q4,q5,j,E⟩:=hrel;have U:=E.size;have Z:=hid q3;have t:=hid q4;clear q4;by_cases J:i<ws.length
  .have s:i+1<ws.length:=by have:=Eq.out;omega
   clear q3;have ik1:(i:Int)<(ws.length:Int):=by omega
   cases f:stands ws i
   .have HN:=hid (eN HS.out N.out (by rw[kqi,t.out,dP J f];rfl));obtain⟨L,F⟩:=Fn f;have k:=hid (mu A ws c ws.length i wr rfl (by omega) s (HR.out.up E U) HO.out);rw[L,F] at k;unfold nE Bk.val at k;dsimp only at k;clear f L F j;go_wp2_with fail;refine k.out.mono ?_;rintro e y ⟨rfl,r⟩;have h:=E.trans (r.mono U);go_wp2;go_ret2;exact⟨kN HN.out (by omega),h.alloc h.size _⟩
   have Q:=aG f;obtain⟨L,F⟩:=Gv f;have k:=hid (mu A ws c ws.length i wr rfl (by omega) s (HR.out.up E U) HO.out);rw[L,F] at k;have D:=hid (show blocks ws O=(blocks ws (i+szAt ws i)).map ((b++[bkAt ws i]) ++ ·) by
    rw[t.out,aP J f];cases blocks ws (i+szAt ws i)<;>simp)
   have P:=hid (cP Bk.cells b (bkAt ws i));have m:=bC ws i;obtain⟨x,hx⟩:=xq (bkAt ws i);obtain⟨z,I⟩:=xq (szAt ws i);rw[hx] at k D P m;rw[I] at D Q m;have HX:=hid hx;obtain⟨S,xs,Y,W,V,R⟩:=x;dsimp only at m;subst m;unfold Bk.val at k;dsimp only at k;obtain⟨z1,z2,z3⟩:=Q;have Jf:=hid z2;clear f L F hx I z2;go_wp2_with fail;refine k.out.mono ?_;rintro e y ⟨rfl,r⟩;have h:=E.trans (r.mono U);have g:=ak j r (kqa _);have o:=h.size;go_wp2_with (at_builtin;refine kzk _ rfl _ _ 48 rfl w.heap.size 55 i2 _ 6 48 underlying48 HJ.out Jg.out Jd.out Je.out rfl (by decide) _ _ _ rfl ((g.alloc _).alloc _) ⟨_,0,none⟩ 1 1 [.int .i64 S,.int .i64 (z:Int),.int .i64 Y,.int .i64 W,.bool V,.int .u64 (R:Int)] rfl rfl (oK _ _ _ (kqm _ _)) (by simp[Value.oneCell']) (by unfold maxLen;omega) (by omega) (by simp;omega) ?_;intro v1 w2 u C _;have q:Bx w2 y.heap.size 55 #[.int .i64 S,.int .i64 (z:Int),.int .i64 Y,.int .i64 W,.bool V,.int .u64 (R:Int)]:=((Bx.new y 55 _).alloc _).grown C (sL g);have Jc:=aO (h.alloc o (.cells #[.int .i64 S,.int .i64 (z:Int),.int .i64 Y,.int .i64 W,.bool V,.int .u64 (R:Int)] 55)) (by simp;omega) (g.alloc _) C;have hc1:w2.cell? ⟨y.heap.size,1,none⟩=some (.int .i64 (z:Int)):=q.cell 1;have hf1:=q.frozen 1;have hl1:=q.lt;clear C q);go_roundw
   case rel=>exact⟨i+z,b++[⟨S,(z:Int),Y,W,V,R⟩],by rw[kjk],by omega,by omega,by have:=Z.out;have:=Jf.out;omega,D.out,by simp;omega,by rw[P.out,kqs];exact u,Jc⟩
   case measure=>simp[intOf];omega
  have T:i=ws.length:=by omega
  have HD:=hid (cy HS.out N.out (l:=b) (by rw[kqi,t.out,aE (by omega)];simp));clear T q3;go_wp2;go_ret2;exact⟨xx HD.out.1 HD.out.2 j,E⟩
 have M:=hid (jo HS.out (nk d));go_enter func65,ntmps65;go_wp2_with fail;refine (aB A ws.length c w (by omega)).mono ?_;rintro e y ⟨rfl,rfl⟩;rw[X.out];by_cases h1:a<128
 .clear d;go_wp2;go_ret2;exact⟨kN M.out (by omega),kqk _ _⟩
 by_cases h2:(ws.length:Int)<a
 .clear d;go_wp2;go_ret2;exact⟨kN M.out (by omega),kqk _ _⟩
 have Ja:(a%2 != 0)=true:=by rw[kqu];omega
 have d1:decide (a<128)=false:=by rw[kqh];omega
 have d2:decide ((ws.length:Int)<a)=false:=by rw[kqh];omega
 have a0:0<=a:=by omega
 clear d;go_wp2;go_ret2;exact⟨kN M.out (by omega),kqk _ _⟩
def Ec:List Bk->Option Bk
 | []=>none
 | b::l=>if b.mark=true then some b else Ec l
def eZ (l:List Bk) (k:Nat):Prop:=∀j,j<k->(gk l j).mark=false
theorem nr(l:List Bk):eZ l 0:=λj h=>absurd h (by omega)
theorem nw(h:eZ l k)(h2:(gk l k).mark=false):eZ l (k+1):=λj hj=>by
 rcases kq6 j k with a|a
 .exact h j a
 .have:j=k:=by omega
  subst this;exact h2
theorem zE:∀ {l:List Bk},eZ l l.length->Ec l=none:=by
 intro l
 induction l with
 | nil=>intro _;rfl
 | cons b l ih =>intro h;have a:b.mark=false:=h 0 (by simp);simp only[Ec,a,kzs,if_false];exact ih λj c=>by have:=h (j+1) (by simpa using c);rwa [ix] at this
theorem Fd:∀ {l:List Bk} {k:Nat},k<l.length->eZ l k->(gk l k).mark=true->Ec l=some (gk l k):=by
 intro l
 induction l with
 | nil=>intro k h;simp at h
 | cons b l ih =>
  intro k c h a;cases k with
  | zero =>rw[ns] at a |-;simp[Ec,a]
  | succ k =>have d:b.mark=false:=h 0 (by omega);simp only[Ec,d,kzs,if_false];rw[ix] at a |-;exact ih (by simpa using c) (λj hj=>by have:=h (j+1) (by omega);rwa [ix] at this) a
def a9 (ws:List Nat) (a:Int):Int:=if bJ ws a=0 then (match Ec (aJ ws a) with | none=>6 | some _=>0) else bJ ws a
def ie (ws:List Nat) (a:Int):Bk:=if bJ ws a=0 then (Ec (aJ ws a)).getD nE else nE
theorem tX(h:bJ ws a=r)(h0:r≠0):ie ws a=nE/\a9 ws a=r:=by subst h;simp[ie,a9,h0]
theorem Ay(h:bJ ws a=0)(hl:aJ ws a=l)(hn:eZ l l.length):ie ws a=nE/\a9 ws a=6:=by subst hl;simp[ie,a9,h,zE hn]
theorem rI(h:bJ ws a=0)(hl:aJ ws a=l)(hk:k<l.length)(hn:eZ l k)(hm:(gk l k).mark=true):ie ws a=gk l k/\a9 ws a=0:=by subst hl;simp[ie,a9,h,Fd hk hn hm]
theorem Fo(h:bJ ws a=0)(hk:k<(aJ ws a).length):(gk (aJ ws a) k).kind==1 || !(gk (aJ ws a) k).mark:=by
 unfold aJ at hk |-;rw[if_pos h] at hk |-;unfold bJ at h;split at h
 .split at h
  .simp at h
  rename_i h2;have h3:=jG (by simpa using h2);cases b:blocks ws a.toNat with
  | none=>rw[b] at h;simp at h
  | some l =>
   rw[b] at hk;simp only[kq8] at hk |-;obtain⟨i,e,-,-,-,f,-⟩:=b9 _ _ b (by omega) k hk;have d:=(bt _).1 (fE f);rw[bM l k hk,e];show ((ar (wd ws i)).kind==1 || !(ar (wd ws i)).mark)=true;rcases d.2 with c|c
   .simp[c.1]
   simp[c.2.2.1]
 simp at h
theorem pu(a:Int):(a.tmod 2 != 0)=(a%2 != 0):=by
 have b:a.tmod 2=0↔a%2=0:=by
  constructor
  .intro h;have:=Int.dvd_of_tmod_eq_zero h;omega
  intro h;exact Int.tmod_eq_zero_of_dvd (Int.dvd_of_emod_eq_zero h)
 rw[kzq,kqu,kqu,ne_eq,ne_eq,b]
theorem Dt(hbad:¬ (128<=a/\a<=(n:Int)/\a%2=0)):(a%2 != 0)=true/\(a.tmod 2 != 0)=true\/((a%2 != 0)=false/\(a.tmod 2 != 0)=false)/\a<128\/(a%2 != 0)=false/\128<=a/\(n:Int)<a:=by
 rw[pu];by_cases h:a%2=0
 .have:(a%2 != 0)=false:=by rw[kqq];exact h
  rw[this];by_cases b:a<128
  .exact .inr (.inl ⟨⟨rfl,rfl⟩,b⟩)
  exact .inr (.inr ⟨rfl,by omega,by omega⟩)
 have:(a%2 != 0)=true:=by rw[kqu];exact h
 rw[this];exact .inl ⟨rfl,rfl⟩
theorem iq(ws:List Nat)(a:Int):(aJ ws a).length<=4611686018427387904:=by
 unfold aJ;split
 .rename_i h;unfold bJ at h;split at h
  .rename_i h1;have hb:=(ae _).1 h1;split at h
   .simp at h
   rename_i h2;have h3:=jG (by simpa using h2);cases b:blocks ws a.toNat with
   | none=>simp
   | some l =>have:=(cd (by omega) _ _ b (by omega) (by omega) (by omega)).1;simp only[kq8];omega
  simp at h
 simp
end Go.Proofs.YtpcajamacpbjcaaGreat
