import Derived.Test.YtpcajamacpbjcaaGreatZKPlain
import Derived.Laws.AppendOwnNone
import Derived.PlainAid
import Derived.Deep.RegionHeld3
import Derived.Deep.DrawnRows
set_option maxHeartbeats 16000000
set_option maxRecDepth 100000
set_option linter.all false
namespace Go.Proofs.YtpcajamacpbjcaaGreat
open Go.RowKit
variable {ops:Array Oper}{b:Bk}{xm:Bool}{a r xa xk xt:Int}{l:List Bk}{G xs:List Nat}{rest:List Oper}{B H g g' i k m n x xn:Nat}{o op:Oper}{dst:Option Tmp}{P:Program}{pos:String}{α:Type}{e t type:TypeId}{v:Value}{w w' w0:World}
open Go.Proofs.Tryz
theorem rL{cs:Array Value}(h:Bx w g t cs)(f:cs[i]? = some v):w.setCell ⟨g,i,none⟩ v=w:=by
 have d:w.heap.modify g (fun | .cells c b a=>.cells (if (none:Option Nat).isSome then c else c.setIfInBounds i v) b a | o=>o)=w.heap:=by
  apply kk2;intro j;rw[Array.getElem?_modify];split
  .rename_i e;subst e;rw[show w.heap[g]? = _ from h];simp only[kzs,kj5,kzp,if_false];congr 2;apply kk2;intro k;rw[kxu];split
   .rename_i e;subst e;split
    .exact f.symm
    rename_i hk;rw[kx5 (by omega)]
   rfl
  rfl
 have e:w.setCell ⟨g,i,none⟩ v={ w with heap:=w.heap.modify g (fun | .cells c b a=>.cells (if (none:Option Nat).isSome then c else c.setIfInBounds i v) b a | o=>o) }:=rfl;rw[e,d]
theorem qm{cs:Array Value}(h:Bx w g t cs):w.setCells g 0 cs.toList=w:=by
 have c:∀(a:List Value) (o:Nat),(∀j v,a[j]? = some v->cs[o+j]? = some v)->w.setCells g o a=w:=by
  intro a
  induction a with
  | nil=>intro o _;rfl
  | cons v a e =>intro o b;simp only[World.setCells];rw[rL h (by have:=b 0 v rfl;simpa using this)];exact e (o+1) (λj u d=>by have:=b (j+1) u (by simpa using d);rwa [show o+1+j=o+(j+1) by omega])
 exact c cs.toList 0 (λj v b=>by simpa using b)
theorem fX{a:Array Value}(h:Bx w g t a){cs:Array Value}(p:cs.size=a.size):Bx (w.setCells g 0 cs.toList) g t cs:=by
 have l:∀(c:List Value) (o:Nat) (w:World) (a:Array Value),Bx w g t a->o+c.length=a.size ->
  ∃b,Bx (w.setCells g o c) g t b/\b.size=a.size/\(∀j,j<o->b[j]? = a[j]?)/\∀j,j<c.length->b[o+j]? = c[j]?:=by
  intro c
  induction c with
  | nil=>intro o w a e _;exact⟨a,e,rfl,λ_ _=>rfl,λj d=>by simp at d⟩
  | cons v c q =>
   intro o w a e n;rw[kq4] at n;obtain⟨b,f,i,m,k⟩:=q (o+1) _ _ (e.set_ o v) (by rw[kke];omega);rw[kke] at i;refine⟨b,f,i,λj d=>?_,λj d=>?_⟩
   .rw[m j (by omega),kxu,if_neg (by omega)]
   cases j with
   | zero=>rw[kxb,m o (by omega),kxu,if_pos rfl,if_pos (by omega)];rfl
   | succ j=>rw[show o+(j+1)=o+1+j by omega,k j (by simpa using d)];simp
 obtain⟨b,f,i,_,k⟩:=l cs.toList 0 w a h (by simpa using p);have e:b=cs:=by
  apply kk2;intro i;by_cases b:i<cs.size
  .have:=k i (by simpa using b);rw[kxg] at this;rw[this];simp
  rw[kx5 (by omega),kx5 (by omega)]
 rwa [e] at f
theorem bt(b:B<=g)(vs:List Value):∀ {w a:World} {o:Nat},Below B w a->Below B w (a.setCells g o vs):=by
 induction vs with
 | nil=>intro w a o h;exact h
 | cons v vs c=>intro w a o h;exact c (h.setCell (p:=⟨g,o,none⟩) b v)
theorem ki{cs:Array Value}(h:Bx w g t cs):w.there g 0 cs.size:=λj a=>by rw[kxg];exact⟨by rw[h.cell j];simp[a],h.frozen j⟩
theorem qN{i:TypeInfo}(f:P.underlying t=some (.array n e))(c:P.info? e=some i)(d:i.size=1)(a:∀w,(isAgg e).run P w=.ok false w){cs:Array Value}(hk:k<n)(g:cs[k]? = some v)(w:World):
 (Instr.index t (.agg cs) (.int .i64 (k:Int))).run P w=.ok v w:=by
 have b:(0:Int)<=(k:Int)/\(k:Int)<(n:Int):=(by omega);simp[Instr.index,asIntOf,run_underlying f,b,sizeOf,typeInfo,c,d,part,Sem.run_bind,a,g,Result.andThen];omega
theorem dW(a:g'≠g)(vs:List Value):∀(w:World) (o:Nat),(w.setCells g o vs).heap[g']? = w.heap[g']?:=by
 induction vs with
 | nil=>intro w o;rfl
 | cons v vs b=>intro w o;simp only[World.setCells];rw[b];exact kk1 w ⟨g,o,none⟩ v g' a
theorem cY(vs:List Value):∀(w:World) (o:Nat),(w.setCells g o vs).heap.size=w.heap.size:=by
 induction vs with
 | nil=>intro w o;rfl
 | cons v vs a=>intro w o;simp only[World.setCells];rw[a,kxc]
def fT (w w':World) (g:Nat):Prop:=w'.heap.size=w.heap.size/\(∀g',g'≠g->w'.heap[g']? = w.heap[g']?)/\∀B,B<=g->Below B w w'
theorem fT.bx{cs:Array Value}(h:fT w w' g)(b:Bx w g' t cs)(a:g'≠g):Bx w' g' t cs:=(h.2.1 g' a).trans b
theorem fT.below(h:fT w w' g)(b:Below B w0 w)(a:B<=g):Below B w0 w':=b.trans (h.2.2 B a)
theorem ai{a:Act}{Q:Exit->Act->World->Prop}(d:op.guard=none)(f:TypeId)(x y:Operand)(m:op.op=.store f x y)(g:Nat)(t:TypeId)(b cs:Array Value)(n:a.eval x=.pointer (some ⟨g,0,none⟩))(hy:a.eval y=.agg cs)(i:Bx w g t b)(j:cs.size=b.size)(l:(P.info? f).map (·.size)=some cs.size)(k:cs.all (·.oneCell')=true)(h:∀W',Bx W' g t cs->fT w W' g->wpList P ops Q rest (a.put op.dst undef) W'):wpList P ops Q (op::rest) a w:=by
 have e:w.there g 0 cs.size:=by rw[j];exact ki i
 refine kjr d f x y m g 0 cs n hy e l k (h _ (fX i j) ⟨cY _ _ _,λg' c=>dW c _ _ _,λB c=>bt c _ (kqe _ _)⟩)
theorem aj{a:Act}{Q:Exit->Act->World->Prop}{after:Array Edge}{guard:Option (Nat × Bool)}(b:TypeId)(x y:Operand)(h:wpList P ops Q ({ dst:=dst,op:=.store b x y,type:=type,pos:=pos,after:=after,guard:=guard }::rest) a w):wpList P ops Q ({ dst:=dst,op:=.store b x y,type:=type,pos:=pos,after:=after,guard:=guard }::rest) a w:=h
theorem av{a:Act}{Q:Exit->Act->World->Prop}{after:Array Edge}{guard:Option (Nat × Bool)}(b:TypeId)(x:Operand)(h:wpList P ops Q ({ dst:=dst,op:=.load b x,type:=type,pos:=pos,after:=after,guard:=guard }::rest) a w):wpList P ops Q ({ dst:=dst,op:=.load b x,type:=type,pos:=pos,after:=after,guard:=guard }::rest) a w:=h
theorem sC{a:Act}{Q:Exit->Act->World->Prop}(b:op.guard=none)(v:Value)(d:(execOp a.eval op).run P w=.ok (.value v) w)(h:wpList P ops Q rest (a.put op.dst v) w):wpList P ops Q (op::rest) a w:=
 wpList_plain b λ_ c=>by
  unfold Oper.wp
  rw[d]
  exact c _ _ h
theorem nO(a b c d:Int)(m:Bool)(n:Int):(#[.int .i64 a,.int .i64 b,.int .i64 c,.int .i64 d,.bool m,.int .u64 n]:Array Value).all (·.oneCell')=true:=by simp[Value.oneCell']
theorem mM:(prog.info? 55).map (·.size)=some 6:=by kernel_rfl
theorem zf(w:World){a:Act}{Q:Exit->Act->World->Prop}(y:o.guard=none)(s x:Operand)(t:TypeId)(O:o.op=.call { callee:=.builtin .append,args:=#[s,x],argTypes:=#[t,t] })(g:Nat)(e:TypeId)(i:TypeInfo)(z:Value)(f k:Nat)(T:P.underlying t=some (.slice e))(M:P.info? e=some i)(X:i.zero=some z)(r:i.size=f)(H:i.bytes=k)(K:z.cells.size=f)(C:0<f)(v:Value)(n:Nat)(xs:List Value)(S:a.eval s=v)(l:w.ownsRow g e f v n xs)(B:Nat)(A:Option Addr)(m c:Nat)(d:List Value)(J:a.eval x=.slice A m c)(I:A=none->c=0)(N:d.length=m*f)(R:Rd w B A d)(F:∀u∈d,u.oneCell'=true)(G:n+m<=maxLen)(p:(n+m)*k<=140737488355328)(q:g<=w.heap.size)(h:∀D j,j.ownsRow g e f D (n+m) (xs++d)->w.grownBy j v.ownBlock->wpList P ops Q rest (a.put o.dst D) j):wpList P ops Q (o::rest) a w:=by
 cases A with
 | none =>
  have E:d=[]:=by
   cases d with
   | nil=>rfl
   | cons u us =>obtain⟨b,L,F,_⟩:=R (by simp);cases F
  subst E;have U:m=0:=by
   rcases kjc m with E|E
   .exact E
   have:=Nat.mul_pos E C;simp at N;omega
  subst U;rw[I rfl] at J;exact wpList_append_own_none y s x t O g e i f T M v n xs S l J (h v w (by simpa using l) (World.grownBy.refl w _))
 | some U =>
  refine kq7 w y s x t O g e i z f k T M X r H K C v n xs S l U m c d J N ?_ F G p q (λD j E V _=>h D j E V);intro j u E;have D:d≠[]:=by intro e;subst e;simp at E
  obtain⟨b,L,e,_,U⟩:=R D;cases e;obtain⟨V,W⟩:=kzd.1 E;have:=U j V;rw[W] at this;rw[<-this];congr 1;unfold Addr.add;split
  .simp_all
  rfl
theorem gc(w:World)(a:Nat)(e:TypeId)(b:Nat)(c:a<=w.heap.size):(w.alloc (.cells #[] e)).ownsRow a e b (.slice (some ⟨w.heap.size,0,none⟩) 0 0) 0 []:=by refine⟨by simp,.inr ⟨w.heap.size,0,#[],rfl,c,heap_alloc_new w _,kqa _,by simp[maxLen],by simp,by simp⟩⟩
theorem db{f:α->List Value}(h:∀x,∀u∈f x,u.oneCell'=true)(l:List α):∀u∈l.flatMap f,u.oneCell'=true:=by intro u a;obtain⟨x,_,b⟩:=kvi.1 a;exact h x u b
theorem Bk.one(b:Bk):∀u∈b.cells,u.oneCell'=true:=by intro u a;simp only[Bk.cells,kq0,kzm,or_false] at a;rcases a with rfl|rfl|rfl|rfl|rfl|rfl<;>rfl
theorem En.one(b:En):∀u∈b.cells,u.oneCell'=true:=by intro u a;simp only[En.cells,kq0,kzm,or_false] at a;rcases a with rfl|rfl<;>rfl
theorem vn(b:Nat):∀u∈ap b,u.oneCell'=true:=by intro u a;simp only[ap,kq0,kzm,or_false] at a;subst a;rfl
theorem eN(f:α->List Value)(sz:Nat)(a:∀x,(f x).length=sz)(l:List α)(k j:Nat)(c:j<sz)(x:α)(u:Value)(b:∀y,l[k]? = some y->f x=(f y).set j u):
 (l.set k x).flatMap f=(l.flatMap f).set (k*sz+j) u:=by
 induction l generalizing k with
 | nil=>simp
 | cons y l e =>
  cases k with
  | zero =>have:=b y rfl;simp only[kqk,kzz,this,kve,kxg];rw[List.set_append_left _ _ (by rw[a];exact c)]
  | succ k =>simp only[kqj,kzz];rw[e k (λz d=>b z (by simpa using d)),kvf _ _ (by rw[a,kjl];omega),a];congr 2;rw[kjl];omega
theorem ia(f:α->List Value)(sz:Nat)(a:∀x,(f x).length=sz)(l:List α)(n:Nat):(l.take n).flatMap f=(l.flatMap f).take (n*sz):=by
 induction l generalizing n with
 | nil=>simp
 | cons x l b =>
  cases n with
  | zero=>simp
  | succ n =>rw[kxx,kzz,kzz,b,List.take_append,a];rw[kza (l:=f x) (by rw[a,kjl];omega)];congr 2;rw[kjl];omega
theorem sM(f:α->List Value)(sz:Nat)(a:∀x,(f x).length=sz)(l:List α)(n:Nat):(l.drop n).flatMap f=(l.flatMap f).drop (n*sz):=by
 induction l generalizing n with
 | nil=>simp
 | cons x l b =>
  cases n with
  | zero=>simp
  | succ n =>rw[List.drop_succ_cons,kzz,b,List.drop_append,a];rw[kj0 (l:=f x) (by rw[a,kjl];omega),kz5];congr 1;rw[kjl];omega
theorem oJ(w:World)(a:Nat)(t k e:TypeId)(i:TypeInfo)(d:Nat)(j:P.underlying t=some (.slice e))(h:P.info? e=some i)(v:Value)(n:Nat)(xs:List Value)(b:w.ownsRow a e d v n xs)(c:Nat):(Builtin.append_ #[t,t] k #[v,.slice none 0 c]).run P w=.ok v w:=by
 rcases b.2 with⟨rfl,rfl⟩|⟨g,cap,cur,rfl,_,_,f,_⟩
 .simp[Builtin.append_,run_underlying j,sizeOf,typeInfo,h,Builtin.lenOf,Builtin.firstCells]
 simp[Builtin.append_,run_underlying j,sizeOf,typeInfo,h,Builtin.lenOf,Builtin.firstCells,f,storeCells]
theorem dD(w:World){a:Act}{K:Act->World->Prop}{Q:Exit->Act->World->Prop}(s x:Operand)(t:TypeId)(M:o.op=.call { callee:=.builtin .append,args:=#[s,x],argTypes:=#[t,t] })(g:Nat)(e:TypeId)(i:TypeInfo)(z:Value)(f k:Nat)(R:P.underlying t=some (.slice e))(J:P.info? e=some i)(W:i.zero=some z)(r:i.size=f)(G:i.bytes=k)(H:z.cells.size=f)(y:0<f)(v:Value)(n:Nat)(xs:List Value)(O:a.eval s=v)(l:w.ownsRow g e f v n xs)(B:Nat)(A:Option Addr)(m c:Nat)(d:List Value)(S:a.eval x=.slice A m c)(L:d.length=m*f)(N:Rd w B A d)(E:∀u∈d,u.oneCell'=true)(F:n+m<=maxLen)(p:(n+m)*k<=140737488355328)(q:g<=w.heap.size)(h:∀D C,C.ownsRow g e f D (n+m) (xs++d)->w.grownBy C v.ownBlock->K (a.put o.dst D) C):o.wp P a w K Q:=by
 cases A with
 | none =>
  have j:d=[]:=by
   cases d with
   | nil=>rfl
   | cons u us =>obtain⟨b,I,E,_⟩:=N (by simp);cases E
  subst j;have T:m=0:=by
   rcases kjc m with j|j
   .exact j
   have:=Nat.mul_pos j y;simp at L;omega
  subst T;have h:=h v w (by simpa using l) (World.grownBy.refl w _);have j:=oJ (P:=P) w g t o.type e i f R J v n xs l c;unfold Oper.wp;simp[execOp,M,resolve,invoke,builtin,O,S,j,Result.andThen];exact h
 | some T =>
  refine wp_append_own w s x t M g e i z f k R J W r G H y v n xs O l T m c d S L ?_ E F p q (λD C j U _=>h D C j U);intro j u D;have C:d≠[]:=by intro e;subst e;simp at D
  obtain⟨b,I,e,_,T⟩:=N C;cases e;obtain⟨U,V⟩:=kzd.1 D;have:=T j U;rw[V] at this;rw[<-this];congr 1;unfold Addr.add;split
  .simp_all
  rfl
theorem aW(w:World){a:Act}{Q:Exit->Act->World->Prop}(D:Region.wanted o (yielded ops a.tmps)=true)(s x:Operand)(t:TypeId)(M:o.op=.call { callee:=.builtin .append,args:=#[s,x],argTypes:=#[t,t] })(g:Nat)(e:TypeId)(i:TypeInfo)(z:Value)(b f:Nat)(R:P.underlying t=some (.slice e))(K:P.info? e=some i)(T:i.zero=some z)(l:i.size=b)(C:i.bytes=f)(F:z.cells.size=b)(E:0<b)(v:Value)(n:Nat)(xs:List Value)(O:a.eval s=v)(p:w.ownsRow g e b v n xs)(B:Nat)(A:Option Addr)(m c:Nat)(d:List Value)(S:a.eval x=.slice A m c)(L:d.length=m*b)(N:Rd w B A d)(G:∀u∈d,u.oneCell'=true)(y:n+m<=maxLen)(j:(n+m)*f<=140737488355328)(k:g<=w.heap.size)(h:∀r q,q.ownsRow g e b r (n+m) (xs++d)->w.grownBy q v.ownBlock->wpList P ops Q rest (a.put o.dst r) q):wpList P ops Q (o::rest) a w:=
 wpList_step λ_ J=>by
  rw[if_pos D]
  exact dD w s x t M g e i z b f R K T l C F E v n xs O p B A m c d S L N G y j k λr q H I=>J _ _ (h r q H I)
theorem iL{a b:Bool}(h:a=b):Ending.returned (.bool a)=.returned (.bool b):=by rw[h]
theorem mX{b:Int}(h:a=b):Ending.returned (.int .i64 a)=.returned (.int .i64 b):=by rw[h]
def am (w:Int):Bool:=decide (256<=w)&&(decide (w<=2048)&&w%8==0)
theorem ae(w:Int):am w=true↔256<=w/\w<=2048/\w%8=0:=by simp[am]
def lk (n:Nat):Int:=if am (n:Int)=true then 0 else 8
theorem aM(h:am (n:Int)=true):lk n=0:=by simp[lk,h]
theorem bQ(h:am (n:Int)=false):lk n=8:=by simp[lk,h]
theorem kB(h:lk n=0):256<=n/\n<=2048/\n%8=0:=by
 cases a:am (n:Int) with
 | false=>rw[bQ a] at h;cases h
 | true=>have:=(ae _).1 a;omega
theorem DE(n:Nat)(w:World)(hn:n<=9223372036854775807):Calls prog 135 #[.int .i64 (n:Int)] w λe a=>e=.returned (.bool (am (n:Int)))/\w=a:=by
 have H:Hid (∀b:Bool,(b=true↔256<=n/\n<=2048/\n%8=0)->b=am (n:Int)):=y5 λb h=>by rw[kzk,ae,h];omega
 go_enter func135,ntmps135;go_wp2_with fail
 all_goals
  go_ret;exact⟨iL (H.out _ (by simp;omega)),rfl⟩
theorem aJ(A:Option Addr)(n c:Nat)(w:World)(f:n<=9223372036854775807):Calls prog 87 #[.slice A n c] w λe a=>e=.returned (.int .i64 (lk n))/\w=a:=by
 cases a:am (n:Int)
 all_goals
  first
   | have b:=y5 (aM a)
   | have b:=y5 (bQ a)
  have d:=y5 a;clear a;go_enter func87,ntmps87;go_wp2_with fail;refine (DE n w f).mono ?_;rintro e w1 ⟨rfl,rfl⟩;rw[d.out];go_wp2;go_ret;exact⟨by rw[b.out];rfl,rfl⟩
def o7 (n:Nat):Bool:=(decide (400<n)&&decide (n<2040))||decide (2060<n)
theorem Af(h:o7 n=false):n<=400\/2040<=n/\n<=2060:=by simp only[o7,kzo,kj6,kqb] at h;omega
theorem Bm(A:Option Addr)(n c:Nat)(w:World)(hm:n<=9223372036854775807):
 Calls prog 12 #[.slice A n c] w λe a=>e=.returned (.bool (o7 n))/\w=a:=by
 have H:Hid (∀b:Bool,(b=true↔(400<n/\n<2040)\/2060<n)->b=o7 n):=y5 λb h=>by rw[kzk,h];simp[o7]
 go_enter func12,ntmps12;go_wp2_with fail
 all_goals
  go_ret;exact⟨iL (H.out _ (by simp;omega)),rfl⟩
def co (w k:Nat):Array Value:=((List.range 8).map λi=>Value.int .u8 (if i<k then ((jl w i:Nat):Int) else 0)).toArray
theorem bM(w k:Nat):(co w k).size=8:=by simp[co]
theorem fj(w k i:Nat)(h:i<8):(co w k)[i]? = some (.int .u8 (if i<k then ((jl w i:Nat):Int) else 0)):=by simp[co,h]
theorem nK(w k:Nat)(hk:k<8):(co w k).setIfInBounds k (.int .u8 (jl w k:Nat))=co w (k+1):=by
 apply kk2;intro i;rw[kxu];by_cases h:i<8
 .rw[fj _ _ _ h,fj _ _ _ h];by_cases e:k=i
  .subst e;rw[if_pos rfl,if_pos (by rw[bM];exact h),if_pos (by omega)]
  rw[if_neg e];by_cases a:i<k
  .rw[if_pos a,if_pos (by omega)]
  rw[if_neg a,if_neg (by omega)]
 rw[if_neg (by omega),kx5 (by rw[bM];omega),kx5 (by rw[bM];omega)]
def iJ:Array Value:=Array.replicate 8 (.int .u8 0)
theorem vt(w:Nat):iJ=co w 0:=by simp[iJ,co];rfl
theorem xQ(w k:Nat):(w:Int)/2 ^ (8*k)%256=((jl w k:Nat):Int):=by rw[jl,show (256:Nat) ^ k=2 ^ (8*k) by rw[Nat.pow_mul]];rfl
theorem Ic:(prog.info? 308).map (·.size)=some 8:=by kernel_rfl
theorem j9:(prog.info? 5).map (λi=>(i.zero,i.size,i.bytes))=some (some (.int .u8 0),1,1):=by kernel_rfl
theorem Jc(w:World):(isAgg 5).run prog w=.ok false w:=by kernel_rfl
theorem kG(x k:Nat):(co x k).all (·.oneCell')=true:=by rw[kkn];intro i a;rw[bM] at a;have h:=fj x k i a;rw[kx7 (by rw[bM];exact a)] at h;injection h with h;rw[h];rfl
theorem CZ(w:World):(zeroValue 308).run prog w=.ok (.agg iJ) w:=by kernel_rfl
theorem Jm(x:Nat)(w:World)(a:x<18446744073709551616):
 Calls prog 288 #[.int .u64 (x:Int)] w λe b=>e=.returned (.agg (co x 8))/\Below w.heap.size w b:=by
 have hzv:=CZ;have hx0:(0:Int)<=(x:Int):=(by omega);clear a;go_enter func288,ntmps288;go_wp2_with fail;go_loopw [4,5] (λi' i wr=>∃k:Nat,k<=8/\i=.int .i64 k/\Bx wr w.heap.size 308 iJ/\Bx wr (w.heap.size+1) 308 (co x k)/\Below w.heap.size w wr) (λ_ i _=>8-(intOf i).toNat)
 case atStart =>
  refine⟨0,kqv _,rfl,(Bx.new w _ _).alloc _,?_,((kqe _ _).alloc (kqa _) _).alloc (by simp) _⟩;have:=Bx.new (w.alloc (.cells iJ 308)) 308 iJ;rw[kqm] at this;rw[<-vt];exact this
 obtain⟨k,hk,rfl,g,c,l⟩:=hrel;have hz:=l.size;by_cases i:k<8
 .have d:=c.cell k;rw[fj _ _ _ i] at d;have hf:=c.frozen k;obtain⟨a,b⟩:=yq0 c g;have ik0:(0:Int)<=(k:Int):=(by omega);have ik1:(k:Int)<8:=(by omega);clear g c;go_wp2_with fail;rw[xQ];refine⟨⟨k+1,by omega,by go_num,b.out.far (p:=⟨w.heap.size+1,k,none⟩) (by dsimp only;omega) _,?_,l.setCell (p:=⟨w.heap.size+1,k,none⟩) (by dsimp only;omega) _⟩,by simp[intOf];omega⟩;rw[<-nK x k i];exact a.out.set_ k _
 obtain rfl:k=8:=(by omega);have j:(prog.info? 308).map (·.size)=some (co x 8).size:=by rw[bM];exact Ic
 have h:=kG x 8;have d:=ki g;rw[show iJ.size=(co x 8).size by rw[bM];simp[iJ]] at d;obtain⟨e,a,f⟩:=yq1 (fX g (cs:=co x 8) (by rw[bM];simp[iJ])) c (bt (kqa _) (co x 8).toList (o:=0) l);clear g c;obtain⟨b,c⟩:=xq (co x 8);have g:=y5 c;rw[c] at j h d e a f;clear c;go_wp2_with (first
  | (refine kz7 rfl _ _ rfl (w.heap.size+1) (by rfl) 308 b (0,0) _ a.out underlying308 (by rfl) j ?_)
  | (refine kjr rfl _ _ _ rfl w.heap.size 0 b (by rfl) (by rfl) d j h ?_))
 exact kqq (v:=.agg b) (results_cell_row rfl _ _ w.heap.size _ b (0,0) _ (by rfl) e.out underlying308 (by rfl) j) rfl ⟨by rw[g.out],f.out⟩
theorem me(n:Nat):IntKind.u64.wrap (n:Int)=((n%18446744073709551616:Nat):Int):=by simp[IntKind.wrap,IntKind.bits,IntKind.signed]
theorem AZ(s:Nat)(A:Option Addr)(l:List Nat)(c n:Nat)(w:World)(f:l.length=n)(hm:n<=2048)(d:s<18446744073709551616)(b:RdW w w.heap.size A l)(a:∀x∈l,x<2^64):
 Calls prog 264 #[.int .u64 (s:Int),.slice A n c] w λe g=>e=.returned (.tuple #[.int .u64 (aR s l:Nat),.int .i64 0])/\Below w.heap.size w g:=by
 subst f;obtain⟨J,I,K⟩:=yq1 b a d;clear b a d;obtain⟨i0,f,a,b,d⟩:=kzh j9;obtain⟨H,HZ0,t,HZ2⟩:=yq2 f a b d;clear f a b d;go_enter func264,ntmps264;go_wp2_with fail;go_loopw [0,15] (λa i wr=>∃k:Nat,k<=l.length/\i=.int .i64 k/\a=.int .u64 (aR s (l.take k):Nat)/\Below w.heap.size w wr) (λ_ i _=>l.length-(intOf i).toNat)
 case atStart=>exact⟨0,kqv _,rfl,rfl,kqe _ _⟩
 obtain⟨k,hk,rfl,rfl,o⟩:=hrel;have M:=o.size;by_cases g:k<l.length
 .obtain ⟨b,C,rfl,L,u⟩:=RdW.at_ J.out g;replace u:=(o.cell (p:=⟨b,C+k,none⟩) L).trans u;obtain⟨E,r⟩:=yq0 (I.out l[k] (kqp g)) (mg g s);obtain⟨x,f⟩:=xq (l[k]);rw[f] at u E r;have D:=y5 (gM K.out (l.take k));obtain⟨q,d⟩:=xq (aR s (l.take k));rw[d] at r D |-;clear f d;have ik1:(0:Int)<=(k:Int):=(by omega);have ik2:(k:Int)<(l.length:Int):=(by omega);go_wp2_with fail;refine (Jm x _ E.out).mono ?_;rintro e w1 ⟨rfl,v⟩;have z:=o.trans (v.mono M);go_wp2_with fail;go_loopw [0,21] (λa i wr=>∃j:Nat,j<=8/\i=.int .i64 j/\a=.int .u64 (Cz q x j:Nat)/\Below w.heap.size w wr) (λ_ i _=>8-(intOf i).toNat)
  case atStart=>exact⟨0,kqv _,rfl,rfl,z⟩
  obtain⟨j,hj,rfl,rfl,i⟩:=hrel;by_cases f:j<8
  .have a:=fj x 8 j f;rw[if_pos f] at a;have m:=qN (P:=prog) underlying308 H.out t.out Jc f a;have B:=so x j;have h:=y5 (tM D.out x j);have d:Hid (Cz q x (j+1)=Gv (Cz q x j) (jl x j)):=y5 rfl;obtain⟨p,F⟩:=xq (Cz q x j);obtain⟨y,G⟩:=xq (jl x j);rw[F] at h d |-;rw[G] at B m d;clear F G a;have a:=y5 (u64_xor_nat p y h.out (by omega));have hxor:=a.out;go_wp2_with fail;refine⟨⟨j+1,by omega,by go_num,?_,i⟩,by simp[intOf];omega⟩;rw[d.out];unfold Gv;rw[<-me,kkm];rfl
  obtain rfl:j=8:=(by omega);go_wp2;go_roundw;exact⟨k+1,by omega,by go_num,by rw[r.out];rfl,i⟩;simp[intOf];omega
 obtain rfl:k=l.length:=(by omega);rw[kzb];go_wp2;go_ret2;exact⟨rfl,o⟩
theorem re(A:Option Addr)(l:List Nat)(c n:Nat)(w:World)(a:l.length=n)(i:n<=2048)(d:RdW w w.heap.size A l)(b:∀x∈l,x<2^64):
 Calls prog 222 #[.slice A n c] w λe f=>e=.returned (.tuple #[.int .u64 (aR 14695981039346656037 l:Nat),.int .i64 0])/\Below w.heap.size w f:=by have h:=y5 d;obtain⟨g,f⟩:=yq0 b a;clear d b a;go_enter func222,ntmps222;go_wp2_with fail;refine (AZ 14695981039346656037 A l c n w f.out i (by omega) h.out g.out).mono ?_;rintro e w1 ⟨rfl,b⟩;obtain⟨q,d⟩:=xq (aR 14695981039346656037 l);have a:=y5 d;rw[d];clear d;go_wp2;go_ret2;exact⟨by rw[a.out];rfl,b⟩
theorem yJ(s:Nat):s &&& 4294967295=s%4294967296:=by rw[show (4294967295:Nat)=2 ^ 32-1 from rfl,kx4]
theorem FE(w:World):Calls prog 224 #[.int .i64 0,.int .i64 32] w λe a=>e=.returned (.int .u64 4294967295)/\w=a:=by go_enter func224,ntmps224;go_wp2;go_ret;exact⟨rfl,rfl⟩
theorem I9(s:Nat)(w:World)(a:s<18446744073709551616):Calls prog 223 #[.int .u64 (s:Int),.int .i64 0,.int .i64 32] w λe b=>e=.returned (.tuple #[.int .u64 ((s%4294967296:Nat):Int),.int .i64 0])/\w=b:=by have b:=y5 (u64_and_nat s 4294967295 a (by omega));clear a;go_enter func223,ntmps223;go_wp2_with fail;refine (FE w).mono ?_;rintro e w1 ⟨rfl,rfl⟩;have a:=b.out;rw[yJ] at a;go_wp2;go_ret2;exact⟨by rw[<-a];rfl,rfl⟩
theorem xM(A:Option Addr)(l:List Nat)(c n:Nat)(w:World)(b:l.length=n)(k:n<=2048)(a:RdW w w.heap.size A l)(d:∀x∈l,x<2^64):
 Calls prog 177 #[.slice A n c,.int .i64 32] w λe f=>e=.returned (.tuple #[.int .u64 ((aR 14695981039346656037 l%4294967296:Nat):Int),.int .i64 0])/\Below w.heap.size w f:=by have j:=y5 a;obtain⟨i,h⟩:=yq0 d b;clear a d b;have g:=y5 (gM (s:=14695981039346656037) (by omega) l);go_enter func177,ntmps177;go_wp2_with fail;refine (re A l c n w h.out k j.out i.out).mono ?_;rintro e w1 ⟨rfl,f⟩;obtain⟨q,d⟩:=xq (aR 14695981039346656037 l);have b:=y5 d;rw[d] at g |-;clear d;go_wp2_with fail;refine (I9 q _ g.out).mono ?_;rintro e w2 ⟨rfl,rfl⟩;obtain⟨r,a⟩:=xq (q%4294967296);have d:=y5 a;rw[a];clear a;go_wp2;go_ret2;exact⟨by rw[b.out,d.out];rfl,f⟩
theorem fq(n:Nat):ui n=am (n:Int):=by rw[kzk,ae];simp only[ui,kqs,kze,kqw];omega
def ao (G:List Nat):Int:=if am (G.length:Int)=true then (match blocks G 128 with | none=>50 | some l=>if l.all (dQ G)=true then 0 else 50) else 8
def aa (G:List Nat):List Bk:=if ao G=0 then (blocks G 128).getD [] else []
theorem nV(h:am (G.length:Int)=false):ao G=8:=by simp[ao,h]
theorem zb(h:am (G.length:Int)=true)(a:blocks G 128=none):ao G=50:=by simp[ao,h,a]
theorem sB(h:am (G.length:Int)=true)(a:blocks G 128=some l)(b:l.all (dQ G)=false):ao G=50:=by simp only[ao,h,a,b,if_true,kzp,if_false]
theorem gI(h:am (G.length:Int)=true)(a:blocks G 128=some l)(b:l.all (dQ G)=true):ao G=0/\aa G=l:=by
 have:ao G=0:=by simp only[ao,h,a,b,if_true]
 exact⟨this,by simp[aa,this,a]⟩
theorem ax(h:ao G=0):am (G.length:Int)=true/\∃l,blocks G 128=some l/\l.all (dQ G)=true/\aa G=l:=by
 have b:=h;unfold ao at h;split at h
 .rename_i h1;refine⟨h1,?_⟩;cases a:blocks G 128 with
  | none=>rw[a] at h;cases h
  | some l =>
   rw[a] at h;dsimp only at h;split at h
   .rename_i h2;exact⟨l,rfl,h2,by simp[aa,b,a]⟩
   cases h
 cases h
theorem AO(G:List Nat):ao G=0\/ao G=8\/ao G=50:=by
 unfold ao;split
 .cases blocks G 128 with
  | none=>simp
  | some l=>dsimp only;split<;>simp
 simp
def gq:List (Int × Int)->Int->Option Int
 | [],_=>none
 | m::l,a=>if m.1=a then some m.2 else gq l a
theorem JE{l:List (Int × Int)}{p:Nat}(a:p<l.length)(h:∀q (b:q<p),(l[q]'(by omega)).1≠l[p].1):gq l l[p].1=some l[p].2:=by
 induction l generalizing p with
 | nil=>simp at a
 | cons m l c =>
  cases p with
  | zero=>simp[gq]
  | succ p =>simp only[gq,kql];rw[if_neg (by simpa using h 0 (by omega))];exact c (by simpa using a) (λq b=>by simpa using h (q+1) (by omega))
theorem xR(h:cx l=0)(s:Int)(hmn:m<=n)(hn:n<=l.length):aN (l.take m) s<=aN (l.take n) s:=by
 obtain⟨_,b⟩:=dE h
 induction n with
 | zero =>
  have:m=0:=(by omega);subst this;exact kvo _
 | succ n d =>
  rcases kq8 n m with a|a
  .have:m=n+1:=(by omega);subst this;exact kvo _
  have h4:=d a (by omega);have c:=(fd _).1 (eF b (show n<l.length by omega)).1;rw[bG l n (by omega)] at c;rw[gN (by omega)];split<;>omega
theorem xw :∀ {s:Int},aA l s=[]->aN l s=s:=by
 induction l with
 | nil=>intro s _;rfl
 | cons b l a =>
  intro s h;simp only[aA,aN] at h |-;split at h
  .simp at h
  rename_i hb;rw[if_neg hb];exact a h
theorem oQ(s:Int)(a:m<=n):(aA (l.take m) s).length<=(aA (l.take n) s).length:=by
 have:l.take n=l.take m++(l.take n).drop m:=by
  conv=>lhs;rw[<-kz6 m (l.take n),kkl,kxo a]
 rw[this,gb,kqu];omega
theorem yh(h:cx l=0){s:Int}(w:s<=oG l):(∀p (b:p<(aA l s).length),((aA l s)[p]).2<=((aA l s)[p]).1/\gq (aA l s) ((aA l s)[p]).1=some ((aA l s)[p]).2) /\
 (∀p q (e:q<(aA l s).length) (d:p<q),((aA l s)[p]'(by omega)).2<((aA l s)[q]).2/\((aA l s)[p]'(by omega)).1<((aA l s)[q]).1)/\(∀(b:0<(aA l s).length),((aA l s)[0]).2=s):=by
 obtain⟨_,t⟩:=dE h;have f:∀p q (e:q<(aA l s).length) (d:p<q),((aA l s)[p]'(by omega)).2<((aA l s)[q]).2/\((aA l s)[p]'(by omega)).1<((aA l s)[q]).1:=by
  intro p q e d;obtain⟨k,c,i,a,j⟩:=jS (show p<(aA l s).length by omega);obtain⟨m,r,b1,g,b3⟩:=jS e;rw[kqg (by omega)] at a g;have a:=Option.some.inj a;have g:=Option.some.inj g;have o:k<m:=by
   rcases kq8 k m with n|n
   .exact n
   have:=oQ (l:=l) s n;omega
  have u:=xR h s (show k+1<=m by omega) (by omega);have v:=(fd _).1 (eF t c).1;rw[bG l k c] at v;rw[gN c,if_pos i] at u;have n:=lY h r o;rw[bG l k c,bG l m r] at n;rw[a,g];exact⟨by dsimp only;omega,n⟩
 refine⟨λp b=>?_,f,λb=>?_⟩
 .refine ⟨?_,JE b (λq e=>by have:=(f q p b e).2;omega)⟩;obtain⟨k,c,i,a,j⟩:=jS b;rw[kqg b] at a;rw[Option.some.inj a];have:=ur h w c;rw[bG l k c] at this;exact this
 obtain⟨k,c,i,a,j⟩:=jS b;rw[kqg b] at a;rw[Option.some.inj a];exact xw (kxe j)
def fC (l:List Bk):List Int:=(l.filter (·.mark)).map Bk.at_
theorem pe:∀ {l:List Bk},(∀b∈l,b.mark=true->b.kind=1)->∀s,fC l=(aA l s).map Prod.fst:=by
 intro l
 induction l with
 | nil=>intro _ s;rfl
 | cons b l d =>
  intro h s;have d:=d (λc a=>h c (by simp[a]));cases a:b.mark with
  | true =>
   have c:aE b=true:=by simp[aE,a,h b (by simp) a]
   simp only[fC,kxf,a,if_true,kj4,aA,c];congr 1;exact d (s+b.size)
  | false =>
   have c:aE b=false:=by simp[aE,a]
   simp only[fC,kxf,a,kzp,if_false,aA,c];exact d s
theorem lu(h:blocks G i=some l)(k:i%2=0):∀b∈l,b.mark=true->b.kind=1:=by
 intro b o g;obtain⟨m,d,rfl⟩:=kqy o;obtain⟨a,e,-,-,-,j,-⟩:=bN _ _ h k m d;have n:=(bC _).1 (gl j);rw[e] at g |-;have f:(aq (wd G a)).mark=true:=g;show (aq (wd G a)).kind=1;rcases n.2 with c|c
 .exact c.1
 rw[f] at c;exact absurd c.2.2.1 (by simp)
theorem tW{a:Bk}(h:aE a=aE b)(s:Int):bK a s=bK b s:=by unfold bK;rw[h]
theorem tK{a:Bk}(h:aE a=aE b)(c:a.size=b.size)(s:Int):fD a s=fD b s:=by unfold fD;rw[h,c]
theorem nM:∀ {l:List Bk} {s:Int},aZ (fwB l s) s=[]:=by
 intro l
 induction l with
 | nil=>intro s;rfl
 | cons b l g =>
  intro s;simp only[fwB,aZ];have c:aE (if b.kind=1 then { b with next:=bK b s } else b)=aE b:=by split<;>rfl
  have f:(if b.kind=1 then { b with next:=bK b s } else b).size=b.size:=by split<;>rfl
  have d:fD (if b.kind=1 then { b with next:=bK b s } else b) s=fD b s:=tK c f s;have e:bK (if b.kind=1 then { b with next:=bK b s } else b) s=bK b s:=tW c s;rw[d,g,e];by_cases a:b.kind=1
  .rw[if_pos a,if_neg (λh=>h.2 rfl)];rfl
  rw[if_neg a,if_neg (λh=>a h.1)];rfl
theorem Dq(c:∀j,j<128->wd xs j=wd G j)(d:b.kind=1->tyA b+1<128)(s:Int):dQ xs (if b.kind=1 then { b with next:=bK b s } else b)=dQ G b:=by
 by_cases a:b.kind=1
 .rw[if_pos a];have h2:=d a;unfold dQ dm;show (b.kind != 1||(b8 (wd xs (tyA b)) (wd xs (tyA b+1))&&b.size==((bp (wd xs (tyA b)%256):Nat):Int)))=_;rw[c _ (by omega),c _ (by omega)]
 rw[if_neg a];have:(b.kind != 1)=true:=by rw[kqx];exact a
 simp[dQ,this]
theorem Fr(m:∀j,j<128->wd xs j=wd G j):∀ {l:List Bk} {s:Int},(∀b∈l,b.kind=1->tyA b+1<128)->(∀b∈l,0<=b.size)->l.all (dQ G)=true->0<=s->ch xs (fwB l s) s=true/\(fwB l s).all (dQ xs)=true:=by
 intro l
 induction l with
 | nil=>intro s _ _ _ _;exact⟨rfl,rfl⟩
 | cons b l o =>
  intro s g h d hs;simp only[List.all_cons,kqs] at d;have e:=Dq m (g b (by simp)) s;have k:aE (if b.kind=1 then { b with next:=bK b s } else b)=aE b:=by split<;>rfl
  have n:(if b.kind=1 then { b with next:=bK b s } else b).size=b.size:=by split<;>rfl
  obtain⟨a,i⟩:=o (s:=fD b s) (λc f=>g c (by simp[f])) (λc f=>h c (by simp[f])) d.2 (by have:=h b (by simp);unfold fD;split<;>omega);refine⟨?_,by simp only[fwB,List.all_cons,e,d.1,i,kzx]⟩;simp only[fwB,ch,e,d.1,kzx,k,n];unfold fD at a |-;cases c:aE b with
  | true =>
   have f:b.kind=1:=by simp[aE] at c;exact c.1
   simp only[c,if_true] at a |-;rw[a,Bool.and_true,if_pos f];simp only[bK,c,if_true,kqw];omega
  | false =>simp only[c,kzp,if_false] at a |-;exact a
theorem pA(h:ao G=0):∃l,blocks G 128=some l/\aa G=l/\eX l 128=0/\bh (au G (aZ l 128)) 128 128=0/\gQ (au G (aZ l 128)) 128 128=aA l 128 /\
 ao (au G (aZ l 128))=0/\aa (au G (aZ l 128))=fwB l 128/\aZ (fwB l 128) 128=[]/\fC l=(aA l 128).map Prod.fst:=by
 obtain⟨k,l,d,r,t⟩:=ax h;have n:=(ae _).1 k;have f:=jP (i:=128) (by omega) d (by omega) (by omega) (by omega) (s:=128) (by omega) (by omega) (by omega);obtain⟨hre,-⟩:=dx f;obtain⟨g,q⟩:=tV _ G 128 l (kqa _) d 128;have c:(au G (aZ l 128)).length=G.length:=aG _ _;obtain⟨o,p⟩:=Fr (xs:=au G (aZ l 128)) (λj hj=>q j (by omega)) (l:=l) (s:=128) (jN d (by omega)) (λb n=>by
  obtain⟨m,b,rfl⟩:=kqy n;obtain⟨a,e,-⟩:=bN _ _ d (by omega) m b;rw[e,aU];omega) r (by omega)
 have a:bh (au G (aZ l 128)) 128 128=0:=by
  rw[jb (l:=fwB l 128) (by rw[c,fq];exact k) ?_ g,if_pos o];rw[c];cases b:gy G.length 128 128 with
  | false=>rfl
  | true=>exact absurd (by omega) ((lm _ _ _).1 b)
 obtain⟨b,e⟩:=gI (by rw[c];exact k) g p;refine⟨l,d,t,f,a,?_,b,e,nM,pe (lu d (by omega)) 128⟩;unfold gQ;rw[if_pos a];show (match blocks (au G (aZ l 128)) 128 with|none=>[] | some l=>aA l 128)=_;rw[g];exact Ef.2.1
theorem CA :∀i l,blocks G i=some l->∀s,(aZ l s).Pairwise (λa b=>a.a<b.a):=by
 refine dX _ (λi _ s=>List.Pairwise.nil) (λi l hi c b a s=>?_);have hsz:=aC c;simp only[aZ];split
 .refine List.Pairwise.cons (λe c=>?_) (a _);have:=qJ _ _ b _ e c;show (bkAt G i).at_+1<e.a;rw[af];omega
 exact a _
def ju (b:Bk):Int:=if jk b=true then 0 else 8
theorem jh(h:jk b=true):ju b=0:=by simp[ju,h]
theorem mA(h:jk b=false):ju b=8:=by simp[ju,h]
theorem At{xs:Int}(h:(2<=xs/\xs%2=0)/\(xk=1/\0<=xt/\xt<8/\xs<=10\/xk=2/\xt=0/\xm=false/\xs<=1920)):(0:Int)=ju ⟨xa,xs,xk,xt,xm,xn⟩:=(jh ((bC _).2 h)).symm
theorem CG{xs:Int}(h:¬ ((2<=xs/\xs%2=0)/\(xk=1/\0<=xt/\xt<8/\xs<=10\/xk=2/\xt=0/\xm=false/\xs<=1920))):(8:Int)=ju ⟨xa,xs,xk,xt,xm,xn⟩:=
 (mA (by
  cases a:jk ⟨xa,xs,xk,xt,xm,xn⟩ with
  | false=>rfl
  | true=>exact absurd ((bC _).1 a) h)).symm
theorem rq(b:Bk)(w:World):Calls prog 165 #[b.val] w λe a=>e=.returned (.int .i64 (ju b))/\Below w.heap.size w a:=by
 obtain⟨xa,xs,xk,xt,a,xn⟩:=b;unfold Bk.val;cases a
 all_goals
  go_enter func165,ntmps165;go_wp2_with fail
  all_goals
   go_ret;refine⟨?_,(kqe _ _).alloc (kqa _) _⟩;(try simp only[kqx,ne_eq,kqt,kxq,kk3,kqb,kze] at *)
   first
    | (exfalso;omega)
    | exact mX (At (by simp only[reduceCtorEq,and_false,false_and,or_false,true_and];omega))
    | exact mX (CG (by simp only[reduceCtorEq,and_false,false_and,or_false,true_and];omega))
def OfRes (b:Bk) (e:Ending):Prop:=∃a1 a2 a3 a4,e=.returned (.agg #[.int .u64 (kr b:Nat),a1,a2,a3,a4])
theorem kw{a:Nat}(b:a<2 ^ i):a ||| x*2 ^ i=a+x*2 ^ i:=by rw[Nat.or_comm,nat_join i _ a (by simp) b,kjj]
theorem uW{K M T S:Nat}{m:Int}(d:K<256)(hM:M<=1)(hT:T<128)(hS:S<65536)(a:m=((M*256:Nat):Int)):
 bits BinOp.or .u64 (bits BinOp.or .u64 (bits BinOp.or .u64 (K:Int) m) ((T:Int)*512)) ((S:Int)*65536)=((K+M*256+T*512+S*65536:Nat):Int):=by
 subst a;have a:=u64_or_nat K (M*256) (by omega) (by omega);have e:K ||| M*256=K+M*256:=by rw[show M*256=M*2 ^ 8 from rfl,kw d]
 rw[e] at a;rw[a];have b:=u64_or_nat (K+M*256) (T*512) (by omega) (by omega);have f:K+M*256 ||| T*512=K+M*256+T*512:=by rw[show T*512=T*2 ^ 9 from rfl,kw (by omega)]
 rw[f] at b;rw[show ((T:Int)*512)=((T*512:Nat):Int) by simp,b];have c:=u64_or_nat (K+M*256+T*512) (S*65536) (by omega) (by omega);have g:K+M*256+T*512 ||| S*65536=K+M*256+T*512+S*65536:=by rw[show S*65536=S*2 ^ 16 from rfl,kw (by omega)]
 rw[g] at c;rw[show ((S:Int)*65536)=((S*65536:Nat):Int) by simp,c]
theorem qr(w:World)(cs:List Value)(t:TypeId):Rd (w.alloc (.cells cs.toArray t)) (w.heap.size+1) (some ⟨w.heap.size,0,none⟩) cs:=λ_ =>
 ⟨w.heap.size,0,rfl,by omega,λj a=>by
  have:=(Bx.new w t cs.toArray).cell j
  rw[kxg,this]
  simp[a]⟩
theorem hdOf_c(b:Bk)(w:World)(f:jk b=true):Calls prog 166 #[b.val] w λe a=>OfRes b e/\Below w.heap.size w a:=by
 obtain⟨a,c,d,e,g,h,h7⟩:=qS f;clear f;obtain⟨xa,xs,xk,xt,f,xn⟩:=b;dsimp only at *;obtain⟨K,rfl⟩:=kqz e;obtain⟨T,rfl⟩:=kqz g;obtain⟨S,rfl⟩:=kqz h;simp only[kqf] at a c d;unfold Bk.val;cases f
 all_goals
  go_enter func166,ntmps166;go_wp2_with fail
 .refine kqq (v:=.agg #[.int .u64 (bits BinOp.or .u64 (bits BinOp.or .u64 (bits BinOp.or .u64 (K:Int) 0) ((T:Int)*512)) ((S:Int)*65536)),.int .u64 (K:Int),.int .u64 (T:Int),.int .u64 (S:Int),.int .u64 0]) (by simp[results,results166,go_sem]) rfl ⟨?_,?_⟩
  .refine ⟨.int .u64 (K:Int),.int .u64 (T:Int),.int .u64 (S:Int),.int .u64 0,?_⟩;rw[uW (M:=0) a (by omega) c d (by simp)];rfl
  exact (((kqe _ _).alloc (kqa _) _).alloc (by simp) _).alloc (by simp;omega) _
 refine kqq (v:=.agg #[.int .u64 (bits BinOp.or .u64 (bits BinOp.or .u64 (bits BinOp.or .u64 (K:Int) 256) ((T:Int)*512)) ((S:Int)*65536)),.int .u64 (K:Int),.int .u64 (T:Int),.int .u64 (S:Int),.int .u64 1]) (by simp[results,results166,go_sem]) rfl ⟨?_,?_⟩
 .refine ⟨.int .u64 (K:Int),.int .u64 (T:Int),.int .u64 (S:Int),.int .u64 1,?_⟩;rw[uW (M:=1) a (by omega) c d (by simp)];rfl
 exact (((kqe _ _).alloc (kqa _) _).alloc (by simp) _).alloc (by simp;omega) _
theorem or32{t:Nat}(hx:x<4294967296)(ht:t<4294967296):bits BinOp.or .u64 (x:Int) ((t:Int)*4294967296)=((x+t*4294967296:Nat):Int):=by have h:=u64_or_nat x (t*4294967296) (by omega) (by omega);rw[show t*4294967296=t*2 ^ 32 from rfl,kw (i:=32) (by omega)] at h;rw[<-h];simp
theorem DZ(x:Nat)(w:World)(a:x<4294967296):Calls prog 167 #[.int .u64 (x:Int)] w λe b=>e=.returned (.tuple #[.int .u64 ((x+jt x%4294967296*4294967296:Nat):Int),.int .i64 0])/\Below w.heap.size w b:=by
 have d:jt x%4294967296<4294967296:=kz3 _ (by omega);obtain⟨b,j⟩:=yq0 (or32 a d) a;have hx0:(0:Int)<=(x:Int):=(by omega);have h:Hid (aR 14695981039346656037 [x]=jt x):=y5 rfl;clear a;go_enter func167,ntmps167;go_wp2_with fail;have c:=qr w [.int .u64 (x:Int)] 53;refine (xM _ [x] _ 1 _ rfl (by omega) (by rw[kqm];exact c) (by intro y a;simp at a;subst a;have:=j.out;omega)).mono ?_;rintro e w1 ⟨rfl,a⟩;rw[kqm] at a;have f:=az a;rw[h.out];obtain⟨t,g⟩:=xq (jt x%4294967296);have i:=y5 g;rw[g] at d b |-;clear g a c;go_wp2;go_ret2;exact⟨by rw[i.out,<-b.out];rfl,f⟩
def jr (b:Bk):Nat:=if jk b=true then cQ b else 0
theorem qv(b:Bk)(w:World):Calls prog 105 #[b.val] w λe a=>e=.returned (.tuple #[.int .u64 (jr b:Nat),.int .i64 (ju b)])/\Below w.heap.size w a:=by
 cases c:jk b
 .obtain⟨h,f,d⟩:=yq1 (show jr b=0 by simp[jr,c]) (mA c) (λW=>rq b W);clear c;obtain⟨s,x,t,y,u,v⟩:=b;unfold Bk.val at d |-;dsimp only at d |-;go_enter func105,ntmps105;go_wp2_with fail;refine (d.out _).mono ?_;rintro e r ⟨rfl,a⟩;rw[kqm] at a;rw[f.out];go_wp2;go_ret2;exact⟨by rw[h.out,f.out];rfl,az a⟩
 obtain⟨h,f,d,i,k⟩:=yq3 (show jr b=kr b+jt (kr b)%4294967296*4294967296 by simp[jr,c,cQ]) (jh c) (λW=>rq b W) (λW=>hdOf_c b W c) (vu c);clear c;obtain⟨q,c⟩:=xq (kr b);have l:=y5 c;rw[c] at h k;clear c;obtain⟨s,x,t,y,u,v⟩:=b;unfold Bk.val at d i |-;dsimp only at d i |-;go_enter func105,ntmps105;go_wp2_with fail;refine (d.out _).mono ?_;rintro e r ⟨rfl,a⟩;rw[kqm] at a;have c:=az a;have g:=Bx.of_new a;obtain⟨c0,c1,c2,c3,c4,c5,-,hz⟩:=g.c6;rw[f.out];clear g a;go_wp2_with fail;refine (i.out _).mono ?_;rintro e w2 ⟨⟨m,n,o,p,rfl⟩,j⟩;have g:=c.trans (j.mono c.size);rw[l.out];have hfld:∀W,(Instr.field 231 (.agg #[.int .u64 (q:Int),m,n,o,p]) 0).run prog W=.ok (.int .u64 (q:Int)) W:=λ_=>by kernel_rfl
 go_wp2_with fail;refine (DZ q _ k.out).mono ?_;rintro e w3 ⟨rfl,a⟩;have d:=g.trans (a.mono g.size);rw[<-h.out];go_wp2;go_ret2;exact⟨by rw[f.out];rfl,d⟩
def mt:Bk:=⟨0,0,0,0,false,0⟩
def An (w:Nat):Bk:=if aD w=true then aq w else mt
def np (w:Nat):Int:=if aD w=true then 0 else 50
theorem kL{w:Nat}(h:aD w=true):An w=aq w/\np w=0:=by simp[An,np,h]
theorem mf{w:Nat}(h:aD w=false):An w=mt/\np w=50:=by simp[An,np,h]
theorem tI(c:x<18446744073709551616)(b:m=2 ^ k-1)(a:m<18446744073709551616):bits BinOp.and .u64 (x:Int) (m:Int)=((x%2 ^ k:Nat):Int):=by rw[u64_and_nat x m c a,b,kx4]
theorem um(w:Nat)(a:w<18446744073709551616):bits BinOp.and .u64 (w:Int) 255=((w%256:Nat):Int)/\bits BinOp.and .u64 ((w:Int)/256) 1=((w/256%2:Nat):Int)/\bits BinOp.and .u64 ((w:Int)/512) 127=((w/512%128:Nat):Int)/\bits BinOp.and .u64 ((w:Int)/65536) 65535=((w/65536%65536:Nat):Int):=
 ⟨tI (k:=8) (m:=255) a (by decide) (by omega),tI (x:=w/256) (k:=1) (m:=1) (by omega) (by decide) (by omega),tI (x:=w/512) (k:=7) (m:=127) (by omega) (by decide) (by omega),tI (x:=w/65536) (k:=16) (m:=65535) (by omega) (by decide) (by omega)⟩
theorem aX{fn:Func}{p q:Tmp}(h:fn.results=#[.cell p 55,.tmp q])(a:Array Value){W:World}{v0 v1 v2 v3 v4 v5 u:Value}(l:Bx W g t #[v0,v1,v2,v3,v4,v5])(b:a.getD p undef=.pointer (some ⟨g,0,none⟩))(c:a.getD q undef=u):
 (results fn a).run prog W=.ok (.tuple #[.agg #[v0,v1,v2,v3,v4,v5],u]) W:=by obtain⟨d,e,f,i,j,k,-,-⟩:=l.c6;rw[kxy] at b c;simp[results,h,b,c,go_sem,d,e,f,i,j,k]
theorem nc(x:Nat)(w:World)(s:x<18446744073709551616):Calls prog 172 #[.int .u64 (x:Int)] w λe a=>e=.returned (.tuple #[(An x).val,.int .i64 (np x)])/\Below w.heap.size w a:=by
 obtain⟨y,z,A,B⟩:=um x s;have i:=y5 (λW=>qv (aq x) W);have o:Hid (ju (aq x)=0->jr (aq x)=x->An x=aq x/\np x=0):=y5 λc d=>kL (by
  have f:jk (aq x)=true:=by
   cases a:jk (aq x) with
   | true=>rfl
   | false=>rw[mA a] at c;cases c
  simp only[jr,f,if_true] at d;simp[aD,f,d])
 have j:Hid (ju (aq x)≠0\/jr (aq x)≠x->An x=mt/\np x=50):=y5 λh=>mf (by
  cases a:jk (aq x) with
  | false=>simp[aD,a]
  | true =>
   rcases h with h|h
   .exact absurd (jh a) h
   simp only[jr,a,if_true] at h;simp[aD,a,h])
 have hx0:(0:Int)<=(x:Int):=(by omega);have c:(aq x).val=.agg #[.int .i64 0,.int .i64 ((x/65536%65536:Nat):Int),.int .i64 ((x%256:Nat):Int),.int .i64 ((x/512%128:Nat):Int),.bool (x/256%2==1),.int .u64 0]:=rfl;have C:x%256<256:=kz3 _ (by omega);have D:x/256%2<2:=kz3 _ (by omega);have E:x/512%128<128:=kz3 _ (by omega);have F:x/65536%65536<65536:=kz3 _ (by omega);rw[c] at i;have a:=y5 c;have f:((((x/256%2:Nat):Int))==1)=(x/256%2==1):=by rw[kzk,kqw,kqw];omega
 obtain⟨K,k⟩:=xq (x%256);obtain⟨M,m⟩:=xq (x/256%2);obtain⟨T,r⟩:=xq (x/512%128);obtain⟨S,q⟩:=xq (x/65536%65536);rw[k] at y C i a;rw[m] at z D f i a;rw[r] at A E i a;rw[q] at B F i a;obtain⟨n,g⟩:=xq ((M==1));rw[g] at f i a;obtain⟨V,l⟩:=xq (jr (aq x));obtain⟨R,d⟩:=xq (ju (aq x));rw[l,d] at o j i;clear s c k m r q g l d;go_enter func172,ntmps172;go_wp2_with fail;have r:=(Bx.new w 55 #[.int .i64 0,.int .i64 0,.int .i64 0,.int .i64 0,.bool false,.int .u64 0]).alloc (.cells #[.int .i64 0,.int .i64 (S:Int),.int .i64 (K:Int),.int .i64 (T:Int),.bool n,.int .u64 0] 55);have s:=Bx.new (w.alloc (.cells #[.int .i64 0,.int .i64 0,.int .i64 0,.int .i64 0,.bool false,.int .u64 0] 55)) 55 #[.int .i64 0,.int .i64 (S:Int),.int .i64 (K:Int),.int .i64 (T:Int),.bool n,.int .u64 0];have g:Below w.heap.size w ((w.alloc (.cells #[.int .i64 0,.int .i64 0,.int .i64 0,.int .i64 0,.bool false,.int .u64 0] 55)).alloc (.cells #[.int .i64 0,.int .i64 (S:Int),.int .i64 (K:Int),.int .i64 (T:Int),.bool n,.int .u64 0] 55)):=((kqe _ _).alloc (kqa _) _).alloc (by simp) _;have q:((w.alloc (.cells #[.int .i64 0,.int .i64 0,.int .i64 0,.int .i64 0,.bool false,.int .u64 0] 55)).alloc (.cells #[.int .i64 0,.int .i64 (S:Int),.int .i64 (K:Int),.int .i64 (T:Int),.bool n,.int .u64 0] 55)).heap.size=w.heap.size+2:=(by simp);rw[kqm] at s;obtain⟨u,c⟩:∃u,(w.alloc (.cells #[.int .i64 0,.int .i64 0,.int .i64 0,.int .i64 0,.bool false,.int .u64 0] 55)).alloc (.cells #[.int .i64 0,.int .i64 (S:Int),.int .i64 (K:Int),.int .i64 (T:Int),.bool n,.int .u64 0] 55)=u:=⟨_,rfl⟩;rw[c] at r s g q |-;clear c;refine (i.out u).mono ?_;rintro e w1 ⟨rfl,c⟩;have m:=g.trans (c.mono g.size);obtain⟨c0,c1,c2,c3,c4,c5,k,cz⟩:=(r.up c (by omega)).c6;obtain⟨d0,d1,d2,d3,d4,d5,G,dz⟩:=(s.up c (by omega)).c6;have cf0:=k 0;have cf1:=k 1;have cf2:=k 2;have cf3:=k 3;have cf4:=k 4;have cf5:=k 5;have t:=y5 (r.up c (by omega));clear r s c g q k G y z A B f C D E F;by_cases d:R=0
 .by_cases l:V=x
  .obtain ⟨c,f⟩:=o.out d l;obtain⟨g,k⟩:=yq0 c f;have q:(R != 0)=false:=by rw[kqt];exact d
   have r:((V:Int) != (x:Int))=false:=(by rw[kqt];omega);clear d l c f;go_wp2_with fail;refine kqq (v:=.tuple #[.agg #[.int .i64 0,.int .i64 (S:Int),.int .i64 (K:Int),.int .i64 (T:Int),.bool n,.int .u64 0],.int .i64 0]) (aX results172 _ ((((((t.out.set_ 0 _).set_ 1 _).set_ 2 _).set_ 3 _).set_ 4 _).set_ 5 _) rfl rfl) rfl ⟨by rw[g.out,k.out,a.out],?_⟩;exact (kzl (p:=⟨w.heap.size,5,none⟩) (kzl (p:=⟨w.heap.size,4,none⟩) (kzl (p:=⟨w.heap.size,3,none⟩) (kzl (p:=⟨w.heap.size,2,none⟩) (kzl (p:=⟨w.heap.size,1,none⟩) (kzl (p:=⟨w.heap.size,0,none⟩) m (kqa _) _) (kqa _) _) (kqa _) _) (kqa _) _) (kqa _) _) (kqa _) _)
  obtain⟨c,f⟩:=j.out (.inr l);obtain⟨g,k⟩:=yq0 c f;have q:(R != 0)=false:=by rw[kqt];exact d
  have r:((V:Int) != (x:Int))=true:=(by rw[kqx];omega);clear d l c f;go_wp2_with fail;refine kqq (v:=.tuple #[.agg #[.int .i64 0,.int .i64 0,.int .i64 0,.int .i64 0,.bool false,.int .u64 0],.int .i64 50]) (aX results172 _ ((((((t.out.set_ 0 _).set_ 1 _).set_ 2 _).set_ 3 _).set_ 4 _).set_ 5 _) rfl rfl) rfl ⟨by rw[g.out,k.out];rfl,?_⟩;exact (kzl (p:=⟨w.heap.size,5,none⟩) (kzl (p:=⟨w.heap.size,4,none⟩) (kzl (p:=⟨w.heap.size,3,none⟩) (kzl (p:=⟨w.heap.size,2,none⟩) (kzl (p:=⟨w.heap.size,1,none⟩) (kzl (p:=⟨w.heap.size,0,none⟩) m (kqa _) _) (kqa _) _) (kqa _) _) (kqa _) _) (kqa _) _) (kqa _) _)
 obtain⟨c,f⟩:=j.out (.inl d);obtain⟨g,k⟩:=yq0 c f;have q:(R != 0)=true:=by rw[kqx];exact d
 clear d c f;go_wp2_with fail;refine kqq (v:=.tuple #[.agg #[.int .i64 0,.int .i64 0,.int .i64 0,.int .i64 0,.bool false,.int .u64 0],.int .i64 50]) (aX results172 _ ((((((t.out.set_ 0 _).set_ 1 _).set_ 2 _).set_ 3 _).set_ 4 _).set_ 5 _) rfl rfl) rfl ⟨by rw[g.out,k.out];rfl,?_⟩;exact (kzl (p:=⟨w.heap.size,5,none⟩) (kzl (p:=⟨w.heap.size,4,none⟩) (kzl (p:=⟨w.heap.size,3,none⟩) (kzl (p:=⟨w.heap.size,2,none⟩) (kzl (p:=⟨w.heap.size,1,none⟩) (kzl (p:=⟨w.heap.size,0,none⟩) m (kqa _) _) (kqa _) _) (kqa _) _) (kqa _) _) (kqa _) _) (kqa _) _)
def stB (G:List Nat) (a:Nat):Bk:=if stands G a=true then bkAt G a else mt
def tr (G:List Nat) (a:Nat):Int:=if stands G a=true then 0 else 50
theorem yZ{a:Nat}(h:stands G a=true):stB G a=bkAt G a/\tr G a=0:=by simp[stB,tr,h]
theorem Ay{a:Nat}(h:stands G a=false):stB G a=mt/\tr G a=50:=by simp[stB,tr,h]
theorem bY(h:i<G.length):wd G i=G[i]:=by simp[wd,h]
theorem fH(a:∀x∈G,x<2^64)(i:Nat):wd G i<18446744073709551616:=by
 by_cases h:i<G.length
 .rw[bY h];exact a _ (kqp h)
 simp[wd,h]
theorem l8{x0 x1 x2 x3 x4 x5:Value}(h:Bx w g t #[x0,x1,x2,x3,x4,x5])(a b c d e f:Value):
 Bx ((((((w.setCell ⟨g,0,none⟩ a).setCell ⟨g,1,none⟩ b).setCell ⟨g,2,none⟩ c).setCell ⟨g,3,none⟩ d).setCell ⟨g,4,none⟩ e).setCell ⟨g,5,none⟩ f) g t #[a,b,c,d,e,f]:=
 (((((h.set_ 0 a).set_ 1 b).set_ 2 c).set_ 3 d).set_ 4 e).set_ 5 f
theorem fS(h:Below B w0 w)(a:B<=g)(b c d e f i:Value):
 Below B w0 ((((((w.setCell ⟨g,0,none⟩ b).setCell ⟨g,1,none⟩ c).setCell ⟨g,2,none⟩ d).setCell ⟨g,3,none⟩ e).setCell ⟨g,4,none⟩ f).setCell ⟨g,5,none⟩ i):=
 (((((h.setCell (p:=⟨g,0,none⟩) a b).setCell (p:=⟨g,1,none⟩) a c).setCell (p:=⟨g,2,none⟩) a d).setCell (p:=⟨g,3,none⟩) a e).setCell (p:=⟨g,4,none⟩) a f).setCell (p:=⟨g,5,none⟩) a i
theorem mW(A:Option Addr)(G:List Nat)(c n a:Nat)(w:World)(b:G.length=n)(hm:n<=1000000)(ha:a+1<n)(L:RdW w w.heap.size A G)(ho:∀x∈G,x<2^64):
 Calls prog 112 #[.slice A n c,.int .i64 (a:Int)] w λe d=>e=.returned (.tuple #[(stB G a).val,.int .i64 (tr G a)])/\Below w.heap.size w d:=by
 subst b;have HR:=y5 L;have t:=fH ho a;have g:=y5 (λW=>nc (wd G a) W t);obtain⟨b,r,rfl,hb,V⟩:=RdW.at_ L (show a<G.length by omega);obtain⟨b',off',e',-,W⟩:=RdW.at_ L ha;cases e';rw[<-bY] at V W;have ik0:(0:Int)<=(a:Int):=(by omega);have ik1:(a:Int)<(G.length:Int):=(by omega);have ik2:(a:Int)+1<(G.length:Int):=(by omega);have ik3:(0:Int)<=(a:Int)+1:=(by omega);have htn:((a:Int)+1).toNat=a+1:=(by omega);have k:(aq (wd G a)).val=.agg #[.int .i64 0,.int .i64 ((szAt G a:Nat):Int),.int .i64 ((wd G a%256:Nat):Int),.int .i64 ((wd G a/512%128:Nat):Int),.bool (wd G a/256%2==1),.int .u64 0]:=rfl;have q:(bkAt G a).val=.agg #[.int .i64 (a:Int),.int .i64 ((szAt G a:Nat):Int),.int .i64 ((wd G a%256:Nat):Int),.int .i64 ((wd G a/512%128:Nat):Int),.bool (wd G a/256%2==1),.int .u64 ((wd G (a+1):Nat):Int)]:=rfl;have Y:szAt G a<65536:=kz3 _ (by omega);have i:Hid (stands G a=(aD (wd G a)&&decide ((szAt G a:Int)<=(G.length:Int)-a))):=y5 rfl;have B:Hid (stands G a=false->stB G a=mt/\tr G a=50):=y5 Ay;have U:Hid (stands G a=true->stB G a=bkAt G a/\tr G a=0):=y5 yZ;cases s:aD (wd G a)
 .obtain ⟨l,m⟩:=B.out (by rw[i.out,s];rfl);obtain⟨P,Q⟩:=mf s;rw[P,Q] at g;obtain⟨u,z⟩:=yq0 l m;clear L k q s l m P Q t;unfold Bk.val mt at g;dsimp only at g;obtain⟨x,t⟩:=xq (wd G a);rw[t] at V g;clear t;go_enter func112,ntmps112;go_wp2_with fail;refine (g.out _).mono ?_;rintro e R ⟨rfl,d⟩;rw[kqm] at d;have j:=Bx.of_new d;have h:=az d;have C:=y5 j;obtain⟨Z,c1,c2,c3,c4,c5,f,cz⟩:=j.c6;have D:=f 0;have E:=f 1;have F:=f 2;have H:=f 3;have I:=f 4;have J:=f 5;clear j f d;go_wp2_with fail;refine kqq (v:=.tuple #[.agg #[.int .i64 0,.int .i64 0,.int .i64 0,.int .i64 0,.bool false,.int .u64 0],.int .i64 50]) (aX results112 _ ((l8 C.out _ _ _ _ _ _).alloc _) rfl rfl) rfl ⟨by rw[u.out,z.out];rfl,(fS h (kqa _) _ _ _ _ _ _).alloc (by simp;have:=h.size;omega) _⟩
 obtain⟨P,Q⟩:=kL s;rw[P,Q,k] at g;have o:=y5 q;obtain⟨S,X⟩:=xq (szAt G a);obtain⟨K,hK⟩:=xq (wd G a%256);obtain⟨T,hT⟩:=xq (wd G a/512%128);obtain⟨M,hM⟩:=xq ((wd G a/256%2==1));rw[X,hK,hT,hM] at g o;rw[X] at Y i;rw[s,kzx] at i;obtain⟨x,N⟩:=xq (wd G a);obtain⟨y,O⟩:=xq (wd G (a+1));rw[N] at V g;rw[O] at W o;clear L k q s P Q t X hK hT hM N O;by_cases k:(G.length:Int)-a<S
 .obtain ⟨l,m⟩:=B.out (by rw[i.out,kqb];omega);obtain⟨u,z⟩:=yq0 l m;clear l m;go_enter func112,ntmps112;go_wp2_with fail;refine (g.out _).mono ?_;rintro e R ⟨rfl,d⟩;rw[kqm] at d;have j:=Bx.of_new d;have h:=az d;have C:=y5 j;obtain⟨Z,c1,c2,c3,c4,c5,f,cz⟩:=j.c6;have D:=f 0;have E:=f 1;have F:=f 2;have H:=f 3;have I:=f 4;have J:=f 5;clear j f d;go_wp2_with fail;refine kqq (v:=.tuple #[.agg #[.int .i64 0,.int .i64 0,.int .i64 0,.int .i64 0,.bool false,.int .u64 0],.int .i64 50]) (aX results112 _ ((l8 C.out _ _ _ _ _ _).alloc _) rfl rfl) rfl ⟨by rw[u.out,z.out];rfl,(fS h (kqa _) _ _ _ _ _ _).alloc (by simp;have:=h.size;omega) _⟩
 obtain⟨l,m⟩:=U.out (by rw[i.out,kqh];omega);obtain⟨u,z⟩:=yq0 l m;have hle:(S:Int)<=(G.length:Int)-a:=(by omega);clear l m k;go_enter func112,ntmps112;go_wp2_with fail;refine (g.out _).mono ?_;rintro e R ⟨rfl,d⟩;rw[kqm] at d;have j:=Bx.of_new d;have h:=az d;have C:=y5 j;obtain⟨Z,c1,c2,c3,c4,c5,f,cz⟩:=j.c6;have D:=f 0;have E:=f 1;have F:=f 2;have H:=f 3;have I:=f 4;have J:=f 5;clear j f d;have hbw:b<R.heap.size:=by have:=h.size;omega
 have d:=(h.cell (p:=⟨b,r+(a+1),none⟩) hb).trans W;have hwr:IntKind.i64.wrap ((a:Int)+1)=(a:Int)+1:=kqo _ (by omega);go_wp2_with fail;have hne:=World.new_ne R ⟨b,r+(a+1),none⟩ d
 go_region_held3 (λX:World=>X.cell? ⟨b,r+(a+1),none⟩=some (.int .u64 (y:Int))) (go_keep) (fail)
 all_goals
  go_wp2_with fail;refine kqq (v:=.tuple #[.agg #[.int .i64 (a:Int),.int .i64 (S:Int),.int .i64 (K:Int),.int .i64 (T:Int),.bool M,.int .u64 (y:Int)],.int .i64 0]) (aX results112 _ (show Bx (World.drew _) _ _ _ from (l8 C.out _ _ _ _ _ _).alloc _) rfl rfl) rfl ⟨by rw[u.out,z.out,o.out],((fS h (kqa _) _ _ _ _ _ _).alloc (by simp;have:=h.size;omega) _).drew⟩
def eU (n:Nat) (a:Int):Bool:=decide (a<128)||(decide ((n:Int)<a)||a%2 != 0)
def cp (G:List Nat) (a:Int):Int:=if am (G.length:Int)=true then (if eU G.length a=true then 2 else (match blocks G a.toNat with | none=>50 | some _=>0)) else 8
def aS (G:List Nat) (a:Int):List Bk:=if cp G a=0 then (blocks G a.toNat).getD [] else []
def qV (G:List Nat) (a:Int) (e:Ending) (w':World):Prop:=∃A c,e=.returned (.tuple #[.slice A (aS G a).length c,.int .i64 (cp G a)])/\RdB w' w'.heap.size A (aS G a)/\(aS G a).length<=c
theorem f8(h:am (G.length:Int)=false):cp G a=8:=by simp[cp,h]
theorem jy(h:am (G.length:Int)=true)(b:eU G.length a=true):cp G a=2:=by simp[cp,h,b]
theorem ft(h:am (G.length:Int)=true)(b:eU G.length a=false)(c:blocks G a.toNat=none):cp G a=50:=by simp[cp,h,b,c]
theorem cC(h:am (G.length:Int)=true)(c:eU G.length a=false)(b:blocks G a.toNat=some l):cp G a=0/\aS G a=l:=by
 have:cp G a=0:=by simp[cp,h,c,b]
 exact⟨this,by simp[aS,this,b]⟩
theorem j8(h:eU n a=false):128<=a/\a<=(n:Int)/\a%2=0:=by simp only[eU,kzo,kqb,kqt] at h;omega
theorem nL(h:¬ (128<=a/\a<=(n:Int)/\a%2=0)):eU n a=true:=by
 cases b:eU n a with
 | true=>rfl
 | false=>exact absurd (j8 b) h
theorem kX(c:cp G a=r)(b:r≠0):qV G a (.returned (.tuple #[.slice none 0 0,.int .i64 r])) w':=by
 subst c;have:aS G a=[]:=by simp[aS,b]
 exact⟨none,0,by rw[this];rfl,by rw[this];exact Rd.nil_,by rw[this];simp⟩
theorem C3(f:cp G a=0)(e:aS G a=l)(h:w'.ownsRow H 55 6 v l.length (l.flatMap Bk.cells)):qV G a (.returned (.tuple #[v,.int .i64 0])) w':=by
 have i:∃A c,v=.slice A l.length c/\l.length<=c:=by
  rcases h.2 with⟨rfl,d⟩|⟨g,cap,cur,rfl,_,_,b,_⟩
  .exact ⟨none,0,by rw[d],by omega⟩
  exact⟨_,_,rfl,b⟩
 obtain⟨A,c,rfl,b⟩:=i;exact⟨A,c,by rw[e,f],by rw[e];exact Rd.of_own h,by rw[e];exact b⟩
theorem kQ:(prog.info? 55).map (λi=>(i.zero,i.size,i.bytes))=some (some (.agg #[.int .i64 0,.int .i64 0,.int .i64 0,.int .i64 0,.bool false,.int .u64 0]),6,48):=by kernel_rfl
theorem qp{sz:Nat}{xs:List Value}(a:w.ownsRow H e sz v n xs):some w.heap.size≠v.ownBlock:=λh=>by have:=(a.lt _ h.symm).2;omega
theorem lM(w:World)(cs:List Value)(t:TypeId)(h:w.heap.size=H):∀j u,cs[j]? = some u->(w.alloc (.cells cs.toArray t)).cell? ((⟨H,0,none⟩:Addr).add j)=some u:=by subst h;exact bc w cs t
theorem ml(A:Option Addr)(G:List Nat)(c n:Nat)(a:Int)(w:World)(h:G.length=n)(f:n<=9223372036854775807)(d:RdW w w.heap.size A G)(b:∀x∈G,x<2^64):
 Calls prog 65 #[.slice A n c,.int .i64 a] w λe g=>qV G a e g/\Below w.heap.size w g:=by
 subst h;obtain⟨HR,HO⟩:=yq0 d b;clear d b;cases b:am (G.length:Int)
 .obtain⟨I,y⟩:=yq0 (bQ b) (f8 (a:=a) b);clear b;go_enter func65,ntmps65;go_wp2_with fail;refine (aJ A G.length c w f).mono ?_;rintro e s ⟨rfl,rfl⟩;rw[I.out];go_wp2;go_ret2;exact⟨kX y.out (by omega),kqe _ _⟩
 obtain⟨I,W⟩:=yq0 (aM b) b;have hb:=kB (aM b);obtain⟨g,hb2,d⟩:=hb;have R:=y5 d;clear b f d;by_cases d:128<=a/\a<=(G.length:Int)/\a%2=0
 .obtain ⟨a1,a2,b⟩:=d;have u:Hid (eU G.length a=false):=y5 (by
   simp only[eU,kzo,kqb,kqt];omega)
  have Y:(a%2 != 0)=false:=by rw[kqt];exact b
  have d1:decide (a<128)=false:=(by rw[kqb];omega);have d2:decide ((G.length:Int)<a)=false:=(by rw[kqb];omega);have Q:=y5 b;obtain⟨H,rfl⟩:=kqz (show 0<=a by omega);have d2n:decide (G.length<H)=false:=(by rw[kqb];omega);clear b;obtain⟨i2,J,b,o,f⟩:=kzh kQ;obtain⟨HJ,S,T,U⟩:=yq2 J b o f;clear J b o f;go_enter func65,ntmps65;go_wp2_with fail;refine (aJ A G.length c w (by omega)).mono ?_;rintro e s ⟨rfl,rfl⟩;rw[I.out];go_wp2_with fail;go_loopw [1,7] (λp v wr=>∃(i:Nat) (b:List Bk),p=.int .i64 i/\H<=i/\i<=G.length/\i%2=0/\blocks G H=(blocks G i).map (b ++ ·)/\b.length<=i/\wr.ownsRow w.heap.size 55 6 v b.length (b.flatMap Bk.cells)/\Below w.heap.size w wr) (λp _ _=>G.length-(intOf p).toNat)
  case atStart=>exact⟨H,[],rfl,kqa _,by omega,by have:=Q.out;omega,by simp,by simp,kq3 _ _ _ _,kqe _ _⟩
  obtain⟨i,b,rfl,q1,q2,q3,f,q5,h,t⟩:=hrel;have K:=t.size;obtain⟨V,r⟩:=yq0 q3 f;clear f;by_cases D:i<G.length
  .have p:i+1<G.length:=by have:=R.out;omega
   clear q3;have ik1:(i:Int)<(G.length:Int):=by omega
   cases f:stands G i
   .have m:=y5 (ft W.out u.out (by rw[kqf,r.out,dt D f];rfl));obtain⟨B,C⟩:=Ay f;have j:=y5 (mW A G c G.length i wr rfl (by omega) p (HR.out.up t K) HO.out);rw[B,C] at j;unfold mt Bk.val at j;dsimp only at j;clear f B C h;go_wp2_with fail;refine j.out.mono ?_;rintro e s ⟨rfl,k⟩;have g:=t.trans (k.mono K);go_wp2;go_ret2;exact⟨kX m.out (by omega),g.alloc g.size _⟩
   have E:=aC f;obtain⟨B,C⟩:=yZ f;have j:=y5 (mW A G c G.length i wr rfl (by omega) p (HR.out.up t K) HO.out);rw[B,C] at j;have q:=y5 (show blocks G H=(blocks G (i+szAt G i)).map ((b++[bkAt G i]) ++ ·) by
    rw[r.out,aT D f];cases blocks G (i+szAt G i)<;>simp)
   have v:=y5 (ce Bk.cells b (bkAt G i));have m:=aU G i;obtain⟨x,Z⟩:=xq (bkAt G i);obtain⟨z,F⟩:=xq (szAt G i);rw[Z] at j q v m;rw[F] at q E m;have HX:=y5 Z;obtain⟨L,xs,M,P,N,O⟩:=x;dsimp only at m;subst m;unfold Bk.val at j;dsimp only at j;obtain⟨z1,m,z3⟩:=E;have X:=y5 m;clear f B C Z F m;go_wp2_with fail;refine j.out.mono ?_;rintro e s ⟨rfl,k⟩;have g:=t.trans (k.mono K);have f:=ag h k (kqa _);have o:=g.size;go_wp2_with (at_builtin;refine kq7 _ rfl _ _ 48 rfl w.heap.size 55 i2 _ 6 48 underlying48 HJ.out S.out T.out U.out rfl (by decide) _ _ _ rfl ((f.alloc _).alloc _) ⟨_,0,none⟩ 1 1 [.int .i64 L,.int .i64 (z:Int),.int .i64 M,.int .i64 P,.bool N,.int .u64 (O:Int)] rfl rfl (lM _ _ _ (kqm _ _)) (by simp[Value.oneCell']) (by unfold maxLen;omega) (by omega) (by simp;omega) ?_;intro v1 C m k _;have j:Bx C s.heap.size 55 #[.int .i64 L,.int .i64 (z:Int),.int .i64 M,.int .i64 P,.bool N,.int .u64 (O:Int)]:=((Bx.new s 55 _).alloc _).grown k (qp f);have B:=ay (g.alloc o (.cells #[.int .i64 L,.int .i64 (z:Int),.int .i64 M,.int .i64 P,.bool N,.int .u64 (O:Int)] 55)) (by simp;omega) (f.alloc _) k;have hc1:C.cell? ⟨s.heap.size,1,none⟩=some (.int .i64 (z:Int)):=j.cell 1;have hf1:=j.frozen 1;have hl1:=j.lt;clear k j);go_roundw;exact⟨i+z,b++[⟨L,(z:Int),M,P,N,O⟩],by rw[kjo],by omega,by omega,by have:=V.out;have:=X.out;omega,q.out,by simp;omega,by rw[v.out,kqu];exact m,B⟩;simp[intOf];omega
  have J:i=G.length:=(by omega);have f:=y5 (cC W.out u.out (l:=b) (by rw[kqf,r.out,aH (by omega)];simp));clear J q3;go_wp2;go_ret2;exact⟨C3 f.out.1 f.out.2 h,t⟩
 have y:=y5 (jy W.out (nL d));go_enter func65,ntmps65;go_wp2_with fail;refine (aJ A G.length c w (by omega)).mono ?_;rintro e s ⟨rfl,rfl⟩;rw[I.out];by_cases h1:a<128
 .clear d;go_wp2;go_ret2;exact⟨kX y.out (by omega),kqe _ _⟩
 by_cases h2:(G.length:Int)<a
 .clear d;go_wp2;go_ret2;exact⟨kX y.out (by omega),kqe _ _⟩
 have Y:(a%2 != 0)=true:=(by rw[kqx];omega);have d1:decide (a<128)=false:=(by rw[kqb];omega);have d2:decide ((G.length:Int)<a)=false:=(by rw[kqb];omega);have a0:0<=a:=(by omega);clear d;go_wp2;go_ret2;exact⟨kX y.out (by omega),kqe _ _⟩
def Gk:List Bk->Option Bk
 | []=>none
 | b::l=>if b.mark=true then some b else Gk l
def fv (l:List Bk) (k:Nat):Prop:=∀j,j<k->(gk l j).mark=false
theorem nT(l:List Bk):fv l 0:=λj h=>absurd h (by omega)
theorem nX(h:fv l k)(b:(gk l k).mark=false):fv l (k+1):=λj hj=>by
 rcases kq8 j k with a|a
 .exact h j a
 .have:j=k:=(by omega);subst this;exact b
theorem Ab:∀ {l:List Bk},fv l l.length->Gk l=none:=by
 intro l
 induction l with
 | nil=>intro _;rfl
 | cons b l d =>intro h;have a:b.mark=false:=h 0 (by simp);simp only[Gk,a,kzp,if_false];exact d λj c=>by have:=h (j+1) (by simpa using c);rwa [ji] at this
theorem Jk:∀ {l:List Bk} {k:Nat},k<l.length->fv l k->(gk l k).mark=true->Gk l=some (gk l k):=by
 intro l
 induction l with
 | nil=>intro k h;simp at h
 | cons b l e =>
  intro k d h a;cases k with
  | zero =>rw[ot] at a |-;simp[Gk,a]
  | succ k =>have c:b.mark=false:=h 0 (by omega);simp only[Gk,c,kzp,if_false];rw[ji] at a |-;exact e (by simpa using d) (λj hj=>by have:=h (j+1) (by omega);rwa [ji] at this) a
def bu (G:List Nat) (a:Int):Int:=if cp G a=0 then (match Gk (aS G a) with | none=>6 | some _=>0) else cp G a
def iI (G:List Nat) (a:Int):Bk:=if cp G a=0 then (Gk (aS G a)).getD mt else mt
theorem uZ(h:cp G a=r)(b:r≠0):iI G a=mt/\bu G a=r:=by subst h;simp[iI,bu,b]
theorem Ap(h:cp G a=0)(b:aS G a=l)(c:fv l l.length):iI G a=mt/\bu G a=6:=by subst b;simp[iI,bu,h,Ab c]
theorem qn(h:cp G a=0)(c:aS G a=l)(b:k<l.length)(e:fv l k)(d:(gk l k).mark=true):iI G a=gk l k/\bu G a=0:=by subst c;simp[iI,bu,h,Jk b e d]
theorem IN(h:cp G a=0)(b:k<(aS G a).length):(gk (aS G a) k).kind==1 || !(gk (aS G a) k).mark:=by
 unfold aS at b |-;rw[if_pos h] at b |-;unfold cp at h;split at h
 .split at h
  .simp at h
  rename_i h2;have h3:=j8 (by simpa using h2);cases d:blocks G a.toNat with
  | none=>rw[d] at h;simp at h
  | some l =>
   rw[d] at b;simp only[kq9] at b |-;obtain⟨i,e,-,-,-,f,-⟩:=bN _ _ d (by omega) k b;have g:=(bC _).1 (gl f);rw[bG l k b,e];show ((aq (wd G i)).kind==1 || !(aq (wd G i)).mark)=true;rcases g.2 with c|c
   .simp[c.1]
   simp[c.2.2.1]
 simp at h
theorem qG(a:Int):(a.tmod 2 != 0)=(a%2 != 0):=by
 have b:a.tmod 2=0↔a%2=0:=by
  constructor
  .intro h;have:=Int.dvd_of_tmod_eq_zero h;omega
  intro h;exact Int.tmod_eq_zero_of_dvd (Int.dvd_of_emod_eq_zero h)
 rw[kzk,kqx,kqx,ne_eq,ne_eq,b]
theorem Eh(hbad:¬ (128<=a/\a<=(n:Int)/\a%2=0)):(a%2 != 0)=true/\(a.tmod 2 != 0)=true\/((a%2 != 0)=false/\(a.tmod 2 != 0)=false)/\a<128\/(a%2 != 0)=false/\128<=a/\(n:Int)<a:=by
 rw[qG];by_cases h:a%2=0
 .have:(a%2 != 0)=false:=by rw[kqt];exact h
  rw[this];by_cases b:a<128
  .exact .inr (.inl ⟨⟨rfl,rfl⟩,b⟩)
  exact .inr (.inr ⟨rfl,by omega,by omega⟩)
 have:(a%2 != 0)=true:=by rw[kqx];exact h
 rw[this];exact .inl ⟨rfl,rfl⟩
theorem iP(G:List Nat)(a:Int):(aS G a).length<=4611686018427387904:=by
 unfold aS;split
 .rename_i h;unfold cp at h;split at h
  .rename_i h1;have hb:=(ae _).1 h1;split at h
   .simp at h
   rename_i h2;have h3:=j8 (by simpa using h2);cases b:blocks G a.toNat with
   | none=>simp
   | some l =>have:=(bv (by omega) _ _ b (by omega) (by omega) (by omega)).1;simp only[kq9];omega
  simp at h
 simp
end Go.Proofs.YtpcajamacpbjcaaGreat
