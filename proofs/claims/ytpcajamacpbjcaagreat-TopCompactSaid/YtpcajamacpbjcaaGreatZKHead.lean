/- Texts laid together: Arr Agg App Cut Img SumW FwbQ HdrW HdrX HdrY Walk From NxtP. -/
import Derived.Test.YtpcajamacpbjcaaGreatZKPlain
import Derived.Deep.MidRow
import Derived.Laws.Rows
import Derived.Laws.AppendOwnNone
import Derived.Laws.BitsAllLaws
import Derived.Laws.Shifts
import Derived.PlainAid
import Derived.Deep.RegionHeld3
import Derived.Deep.DrawnRows
set_option maxHeartbeats 16000000
set_option maxRecDepth 100000
set_option linter.all false
namespace Go.Proofs.YtpcajamacpbjcaaGreat
open Lib (hid)
open Go.RowKit
variable {ops:Array Oper}{b:Bk}{xm:Bool}{a r xa xk xt:Int}{l:List Bk}{ws:List Nat}{rest:List Oper}{xs:List Value}{B H g g' i k m n x xn:Nat}{o op:Oper}{dst:Option Tmp}{P:Program}{pos:String}{α:Type}{e t type:TypeId}{v:Value}{w w' w0:World}
open Go.Proofs.Tryz
theorem sG{cs:Array Value}(h:Bx w g t cs)(hv:cs[i]? = some v):w.setCell ⟨g,i,none⟩ v=w:=by
 have d:w.heap.modify g (fun | .cells c b a=>.cells (if (none:Option Nat).isSome then c else c.setIfInBounds i v) b a | o=>o)=w.heap:=by
  apply kk0;intro j;rw[Array.getElem?_modify];split
  .rename_i e;subst e;rw[show w.heap[g]? = _ from h];simp only[kzz,kj4,kzm,if_false];congr 2;apply kk0;intro k;rw[kja];split
   .rename_i e;subst e;split
    .exact hv.symm
    rename_i hk;rw[kjf (by omega)]
   rfl
  rfl
 have e:w.setCell ⟨g,i,none⟩ v={ w with heap:=w.heap.modify g (fun | .cells c b a=>.cells (if (none:Option Nat).isSome then c else c.setIfInBounds i v) b a | o=>o) }:=rfl;rw[e,d]
theorem qr{cs:Array Value}(h:Bx w g t cs):w.setCells g 0 cs.toList=w:=by
 have b:∀(vs:List Value) (o:Nat),(∀j v,vs[j]? = some v->cs[o+j]? = some v)->w.setCells g o vs=w:=by
  intro vs
  induction vs with
  | nil=>intro o _;rfl
  | cons v vs ih =>intro o a;simp only[World.setCells];rw[sG h (by have:=a 0 v rfl;simpa using this)];exact ih (o+1) (λj u c=>by have:=a (j+1) u (by simpa using c);rwa [show o+1+j=o+(j+1) by omega])
 exact b cs.toList 0 (λj v a=>by simpa using a)
theorem fX{a:Array Value}(h:Bx w g t a){cs:Array Value}(hs:cs.size=a.size):Bx (w.setCells g 0 cs.toList) g t cs:=by
 have m:∀(vs:List Value) (o:Nat) (w:World) (a:Array Value),Bx w g t a->o+vs.length=a.size ->
  ∃b,Bx (w.setCells g o vs) g t b/\b.size=a.size/\(∀j,j<o->b[j]? = a[j]?)/\∀j,j<vs.length->b[o+j]? = vs[j]?:=by
  intro vs
  induction vs with
  | nil=>intro o w a f _;exact⟨a,f,rfl,λ_ _=>rfl,λj c=>by simp at c⟩
  | cons v vs ih =>
   intro o w a f p;rw[kq2] at p;obtain⟨b,l,d,n,k⟩:=ih (o+1) _ _ (f.set_ o v) (by rw[kkx];omega);rw[kkx] at d;refine⟨b,l,d,λj c=>?_,λj c=>?_⟩
   .rw[n j (by omega),kja,if_neg (by omega)]
   cases j with
   | zero=>rw[kxa,n o (by omega),kja,if_pos rfl,if_pos (by omega)];rfl
   | succ j=>rw[show o+(j+1)=o+1+j by omega,k j (by simpa using c)];simp
 obtain⟨b,l,d,_,k⟩:=m cs.toList 0 w a h (by simpa using hs);have e:b=cs:=by
  apply kk0;intro i;by_cases q:i<cs.size
  .have:=k i (by simpa using q);rw[kxd] at this;rw[this];simp
  rw[kjf (by omega),kjf (by omega)]
 rwa [e] at l
theorem bh(hg:B<=g)(vs:List Value):∀ {w a:World} {o:Nat},Below B w a->Below B w (a.setCells g o vs):=by
 induction vs with
 | nil=>intro w a o h;exact h
 | cons v vs ih=>intro w a o h;exact ih (h.setCell (p:=⟨g,o,none⟩) hg v)
theorem kj{cs:Array Value}(h:Bx w g t cs):w.there g 0 cs.size:=λj a=>by rw[kxd];exact⟨by rw[h.cell j];simp[a],h.frozen j⟩
theorem rm{i:TypeInfo}(ht:P.underlying t=some (.array n e))(he:P.info? e=some i)(hs:i.size=1)(hag:∀w,(isAgg e).run P w=.ok false w){cs:Array Value}(hk:k<n)(hv:cs[k]? = some v)(w:World):
 (Instr.index t (.agg cs) (.int .i64 (k:Int))).run P w=.ok v w:=by
 have a:(0:Int)<=(k:Int)/\(k:Int)<(n:Int):=by omega
 simp[Instr.index,asIntOf,run_underlying ht,a,sizeOf,typeInfo,he,hs,part,Sem.run_bind,hag,hv,Result.andThen];omega
theorem dN(hne:g'≠g)(vs:List Value):∀(w:World) (o:Nat),(w.setCells g o vs).heap[g']? = w.heap[g']?:=by
 induction vs with
 | nil=>intro w o;rfl
 | cons v vs ih=>intro w o;simp only[World.setCells];rw[ih];exact kkz w ⟨g,o,none⟩ v g' hne
theorem cY(vs:List Value):∀(w:World) (o:Nat),(w.setCells g o vs).heap.size=w.heap.size:=by
 induction vs with
 | nil=>intro w o;rfl
 | cons v vs ih=>intro w o;simp only[World.setCells];rw[ih,kz6]
def iE (w w':World) (g:Nat):Prop:=w'.heap.size=w.heap.size/\(∀g',g'≠g->w'.heap[g']? = w.heap[g']?)/\∀B,B<=g->Below B w w'
theorem iE.bx{cs:Array Value}(h:iE w w' g)(hb:Bx w g' t cs)(hne:g'≠g):Bx w' g' t cs:=(h.2.1 g' hne).trans hb
theorem iE.below(h:iE w w' g)(hb:Below B w0 w)(hB:B<=g):Below B w0 w':=hb.trans (h.2.2 B hB)
theorem ao{a:Act}{Q:Exit->Act->World->Prop}(hgd:op.guard=none)(ty:TypeId)(x y:Operand)(ho:op.op=.store ty x y)(g:Nat)(t:TypeId)(cs0 cs:Array Value)(hx:a.eval x=.pointer (some ⟨g,0,none⟩))(hy:a.eval y=.agg cs)(hb:Bx w g t cs0)(hs:cs.size=cs0.size)(hi:(P.info? ty).map (·.size)=some cs.size)(h1:cs.all (·.oneCell')=true)(h:∀W',Bx W' g t cs->iE w W' g->wpList P ops Q rest (a.put op.dst undef) W'):wpList P ops Q (op::rest) a w:=by
 have c:w.there g 0 cs.size:=by rw[hs];exact kj hb
 refine kju hgd ty x y ho g 0 cs hx hy c hi h1 (h _ (fX hb hs) ⟨cY _ _ _,λg' b=>dN b _ _ _,λB d=>bh d _ (kqk _ _)⟩)
theorem ar{a:Act}{Q:Exit->Act->World->Prop}{after:Array Edge}{guard:Option (Nat × Bool)}(ty:TypeId)(x y:Operand)(h:wpList P ops Q ({ dst:=dst,op:=.store ty x y,type:=type,pos:=pos,after:=after,guard:=guard }::rest) a w):wpList P ops Q ({ dst:=dst,op:=.store ty x y,type:=type,pos:=pos,after:=after,guard:=guard }::rest) a w:=h
theorem aQ{a:Act}{Q:Exit->Act->World->Prop}{after:Array Edge}{guard:Option (Nat × Bool)}(ty:TypeId)(x:Operand)(h:wpList P ops Q ({ dst:=dst,op:=.load ty x,type:=type,pos:=pos,after:=after,guard:=guard }::rest) a w):wpList P ops Q ({ dst:=dst,op:=.load ty x,type:=type,pos:=pos,after:=after,guard:=guard }::rest) a w:=h
theorem rM{a:Act}{Q:Exit->Act->World->Prop}(hgd:op.guard=none)(v:Value)(hv:(execOp a.eval op).run P w=.ok (.value v) w)(h:wpList P ops Q rest (a.put op.dst v) w):wpList P ops Q (op::rest) a w:=
 wpList_plain hgd λ_ b=>by
  unfold Oper.wp
  rw[hv]
  exact b _ _ h
theorem qO(x0 x1 x2 x3:Int)(m:Bool)(n:Int):(#[.int .i64 x0,.int .i64 x1,.int .i64 x2,.int .i64 x3,.bool m,.int .u64 n]:Array Value).all (·.oneCell')=true:=by simp[Value.oneCell']
theorem qL:(prog.info? 55).map (·.size)=some 6:=by kernel_rfl
theorem zF(w:World){a:Act}{Q:Exit->Act->World->Prop}(hgd:o.guard=none)(s x:Operand)(t:TypeId)(ho:o.op=.call { callee:=.builtin .append,args:=#[s,x],argTypes:=#[t,t] })(base:Nat)(e:TypeId)(i:TypeInfo)(z:Value)(size bytes:Nat)(ht:P.underlying t=some (.slice e))(hi:P.info? e=some i)(hz:i.zero=some z)(hsize:i.size=size)(hby:i.bytes=bytes)(hzs:z.cells.size=size)(hsz:0<size)(v:Value)(n:Nat)(xs:List Value)(hs:a.eval s=v)(hown:w.ownsRow base e size v n xs)(B:Nat)(A:Option Addr)(m c:Nat)(news:List Value)(hx:a.eval x=.slice A m c)(hc0:A=none->c=0)(hl:news.length=m*size)(hr:Rd w B A news)(f:∀u∈news,u.oneCell'=true)(h63:n+m<=maxLen)(hbytes:(n+m)*bytes<=140737488355328)(hbase:base<=w.heap.size)(h:∀d w',w'.ownsRow base e size d (n+m) (xs++news)->w.grownBy w' v.ownBlock->wpList P ops Q rest (a.put o.dst d) w'):wpList P ops Q (o::rest) a w:=by
 cases A with
 | none =>
  have r:news=[]:=by
   cases news with
   | nil=>rfl
   | cons u us =>obtain⟨b,k,f,_⟩:=hr (by simp);cases f
  subst r;have F:m=0:=by
   rcases kjb m with l|l
   .exact l
   have:=Nat.mul_pos l hsz;simp at hl;omega
  subst F;rw[hc0 rfl] at hx;exact wpList_append_own_none hgd s x t ho base e i size ht hi v n xs hs hown hx (h v w (by simpa using hown) (World.grownBy.refl w _))
 | some ad =>
  refine kzh w hgd s x t ho base e i z size bytes ht hi hz hsize hby hzs hsz v n xs hs hown ad m c news hx hl ?_ f h63 hbytes hbase (λd w' C q _=>h d w' C q);intro j u p;have g:news≠[]:=by intro e;subst e;simp at p
  obtain⟨b,k,e,_,y⟩:=hr g;cases e;obtain⟨D,E⟩:=kza.1 p;have:=y j D;rw[E] at this;rw[<-this];congr 1;unfold Addr.add;split
  .simp_all
  rfl
theorem iT(w:World)(base:Nat)(e:TypeId)(size:Nat)(hb:base<=w.heap.size):(w.alloc (.cells #[] e)).ownsRow base e size (.slice (some ⟨w.heap.size,0,none⟩) 0 0) 0 []:=by refine⟨by simp,.inr ⟨w.heap.size,0,#[],rfl,hb,heap_alloc_new w _,kqa _,by simp[maxLen],by simp,by simp⟩⟩
theorem dy{f:α->List Value}(h:∀x,∀u∈f x,u.oneCell'=true)(l:List α):∀u∈l.flatMap f,u.oneCell'=true:=by intro u b;obtain⟨x,_,a⟩:=kvf.1 b;exact h x u a
theorem Bk.one(b:Bk):∀u∈b.cells,u.oneCell'=true:=by intro u a;simp only[Bk.cells,kqw,kzk,or_false] at a;rcases a with rfl|rfl|rfl|rfl|rfl|rfl<;>rfl
theorem En.one(b:En):∀u∈b.cells,u.oneCell'=true:=by intro u a;simp only[En.cells,kqw,kzk,or_false] at a;rcases a with rfl|rfl<;>rfl
theorem qs(b:Nat):∀u∈ae b,u.oneCell'=true:=by intro u a;simp only[ae,kqw,kzk,or_false] at a;subst a;rfl
theorem eO(f:α->List Value)(sz:Nat)(hf:∀x,(f x).length=sz)(l:List α)(k j:Nat)(hj:j<sz)(x:α)(u:Value)(hk:∀y,l[k]? = some y->f x=(f y).set j u):
 (l.set k x).flatMap f=(l.flatMap f).set (k*sz+j) u:=by
 induction l generalizing k with
 | nil=>simp
 | cons y l ih =>
  cases k with
  | zero =>have:=hk y rfl;simp only[kqg,kzy,this,kvs,kxd];rw[List.set_append_left _ _ (by rw[hf];exact hj)]
  | succ k =>simp only[kqf,kzy];rw[ih k (λz a=>hk z (by simpa using a)),kvc _ _ (by rw[hf,kjh];omega),hf];congr 2;rw[kjh];omega
theorem iV(f:α->List Value)(sz:Nat)(hf:∀x,(f x).length=sz)(l:List α)(n:Nat):(l.take n).flatMap f=(l.flatMap f).take (n*sz):=by
 induction l generalizing n with
 | nil=>simp
 | cons x l ih =>
  cases n with
  | zero=>simp
  | succ n =>rw[kxs,kzy,kzy,ih,List.take_append,hf];rw[kq8 (l:=f x) (by rw[hf,kjh];omega)];congr 2;rw[kjh];omega
theorem sD(f:α->List Value)(sz:Nat)(hf:∀x,(f x).length=sz)(l:List α)(n:Nat):(l.drop n).flatMap f=(l.flatMap f).drop (n*sz):=by
 induction l generalizing n with
 | nil=>simp
 | cons x l ih =>
  cases n with
  | zero=>simp
  | succ n =>rw[List.drop_succ_cons,kzy,ih,List.drop_append,hf];rw[kjg (l:=f x) (by rw[hf,kjh];omega),kz2];congr 1;rw[kjh];omega
theorem Rd.from_{off:Nat}(h:Rd w B (some ⟨g,off,none⟩) xs)(k:Nat):Rd w B (some ⟨g,off+k,none⟩) (xs.drop k):=λl=>by
 have d:k<xs.length:=by
  rcases kq7 k xs.length with a|a
  .exact a
  exact absurd (kk7 a) l
 obtain⟨b,o2,e,i,f⟩:=h (by intro e;subst e;simp at d);cases e;refine⟨g,off+k,rfl,i,λj m=>?_⟩;have c:k+j<xs.length:=by simp at m;omega
 rw[kkb,kj3];exact f _ c
theorem pk(w:World)(base:Nat)(t ty e:TypeId)(i:TypeInfo)(size:Nat)(ht:P.underlying t=some (.slice e))(hi:P.info? e=some i)(v:Value)(n:Nat)(xs:List Value)(hown:w.ownsRow base e size v n xs)(c:Nat):(Builtin.append_ #[t,t] ty #[v,.slice none 0 c]).run P w=.ok v w:=by
 rcases hown.2 with⟨rfl,rfl⟩|⟨g,cap,cur,rfl,_,_,a,_⟩
 .simp[Builtin.append_,run_underlying ht,sizeOf,typeInfo,hi,Builtin.lenOf,Builtin.firstCells]
 simp[Builtin.append_,run_underlying ht,sizeOf,typeInfo,hi,Builtin.lenOf,Builtin.firstCells,a,storeCells]
theorem jR(w:World){a:Act}{K:Act->World->Prop}{Q:Exit->Act->World->Prop}(s x:Operand)(t:TypeId)(ho:o.op=.call { callee:=.builtin .append,args:=#[s,x],argTypes:=#[t,t] })(base:Nat)(e:TypeId)(i:TypeInfo)(z:Value)(size bytes:Nat)(ht:P.underlying t=some (.slice e))(hi:P.info? e=some i)(hz:i.zero=some z)(hsize:i.size=size)(hby:i.bytes=bytes)(hzs:z.cells.size=size)(hsz:0<size)(v:Value)(n:Nat)(xs:List Value)(hs:a.eval s=v)(hown:w.ownsRow base e size v n xs)(B:Nat)(A:Option Addr)(m c:Nat)(news:List Value)(hx:a.eval x=.slice A m c)(hl:news.length=m*size)(hr:Rd w B A news)(g:∀u∈news,u.oneCell'=true)(h63:n+m<=maxLen)(hbytes:(n+m)*bytes<=140737488355328)(hbase:base<=w.heap.size)(h:∀f w',w'.ownsRow base e size f (n+m) (xs++news)->w.grownBy w' v.ownBlock->K (a.put o.dst f) w'):o.wp P a w K Q:=by
 cases A with
 | none =>
  have y:news=[]:=by
   cases news with
   | nil=>rfl
   | cons u us =>obtain⟨b,l,g,_⟩:=hr (by simp);cases g
  subst y;have G:m=0:=by
   rcases kjb m with p|p
   .exact p
   have:=Nat.mul_pos p hsz;simp at hl;omega
  subst G;have h:=h v w (by simpa using hown) (World.grownBy.refl w _);have d:=pk (P:=P) w base t o.type e i size ht hi v n xs hown c;unfold Oper.wp;simp[execOp,ho,resolve,invoke,builtin,hs,hx,d,Result.andThen];exact h
 | some ad =>
  refine wp_append_own w s x t ho base e i z size bytes ht hi hz hsize hby hzs hsz v n xs hs hown ad m c news hx hl ?_ g h63 hbytes hbase (λf w' D r _=>h f w' D r);intro j u q;have k:news≠[]:=by intro e;subst e;simp at q
  obtain⟨b,l,e,_,C⟩:=hr k;cases e;obtain⟨E,F⟩:=kza.1 q;have:=C j E;rw[F] at this;rw[<-this];congr 1;unfold Addr.add;split
  .simp_all
  rfl
theorem aX(w:World){a:Act}{Q:Exit->Act->World->Prop}(hgd:Region.wanted o (yielded ops a.tmps)=true)(s x:Operand)(t:TypeId)(ho:o.op=.call { callee:=.builtin .append,args:=#[s,x],argTypes:=#[t,t] })(base:Nat)(e:TypeId)(i:TypeInfo)(z:Value)(size bytes:Nat)(ht:P.underlying t=some (.slice e))(hi:P.info? e=some i)(hz:i.zero=some z)(hsize:i.size=size)(hby:i.bytes=bytes)(hzs:z.cells.size=size)(hsz:0<size)(v:Value)(n:Nat)(xs:List Value)(hs:a.eval s=v)(hown:w.ownsRow base e size v n xs)(B:Nat)(A:Option Addr)(m c:Nat)(news:List Value)(hx:a.eval x=.slice A m c)(hl:news.length=m*size)(hr:Rd w B A news)(h1:∀u∈news,u.oneCell'=true)(h63:n+m<=maxLen)(hbytes:(n+m)*bytes<=140737488355328)(hbase:base<=w.heap.size)(h:∀b w',w'.ownsRow base e size b (n+m) (xs++news)->w.grownBy w' v.ownBlock->wpList P ops Q rest (a.put o.dst b) w'):wpList P ops Q (o::rest) a w:=
 wpList_step λ_ g=>by
  rw[if_pos hgd]
  exact jR w s x t ho base e i z size bytes ht hi hz hsize hby hzs hsz v n xs hs hown B A m c news hx hl hr h1 h63 hbytes hbase λb w' f d=>g _ _ (h b w' f d)
theorem jJ{a b:Bool}(h:a=b):Ending.returned (.bool a)=.returned (.bool b):=by rw[h]
theorem nn{b:Int}(h:a=b):Ending.returned (.int .i64 a)=.returned (.int .i64 b):=by rw[h]
def ak (w:Int):Bool:=decide (256<=w)&&(decide (w<=2048)&&w%8==0)
theorem ab(w:Int):ak w=true↔256<=w/\w<=2048/\w%8=0:=by simp[ak]
def lR (n:Nat):Int:=if ak (n:Int)=true then 0 else 8
theorem aV(h:ak (n:Int)=true):lR n=0:=by simp[lR,h]
theorem bL(h:ak (n:Int)=false):lR n=8:=by simp[lR,h]
theorem kR(h:lR n=0):256<=n/\n<=2048/\n%8=0:=by
 cases a:ak (n:Int) with
 | false=>rw[bL a] at h;cases h
 | true=>have:=(ab _).1 a;omega
theorem Gy(n:Nat)(w:World)(hn:n<=9223372036854775807):Calls prog 135 #[.int .i64 (n:Int)] w λe w'=>e=.returned (.bool (ak (n:Int)))/\w=w':=by
 have H:Hid (∀b:Bool,(b=true↔256<=n/\n<=2048/\n%8=0)->b=ak (n:Int)):=hid λb h=>by rw[kzl,ab,h];omega
 go_enter func135,ntmps135;go_wp2_with fail
 all_goals
  go_ret;exact⟨jJ (H.out _ (by simp;omega)),rfl⟩
theorem aB(A:Option Addr)(n c:Nat)(w:World)(hn:n<=9223372036854775807):Calls prog 87 #[.slice A n c] w λe w'=>e=.returned (.int .i64 (lR n))/\w=w':=by
 cases a:ak (n:Int)
 all_goals
  first
   | have b:=hid (aV a)
   | have b:=hid (bL a)
  have d:=hid a;clear a;go_enter func87,ntmps87;go_wp2_with fail;refine (Gy n w hn).mono ?_;rintro e w1 ⟨rfl,rfl⟩;rw[d.out];go_wp2;go_ret;exact⟨by rw[b.out];rfl,rfl⟩
def pA (n:Nat):Bool:=(decide (400<n)&&decide (n<2040))||decide (2060<n)
theorem greatW_no(h:pA n=false):n<=400\/2040<=n/\n<=2060:=by simp only[pA,kzs,kkk,kqh] at h;omega
theorem Cg(A:Option Addr)(n c:Nat)(w:World)(hm:n<=9223372036854775807):
 Calls prog 12 #[.slice A n c] w λe w'=>e=.returned (.bool (pA n))/\w=w':=by
 have H:Hid (∀b:Bool,(b=true↔(400<n/\n<2040)\/2060<n)->b=pA n):=hid λb h=>by rw[kzl,h];simp[pA]
 go_enter func12,ntmps12;go_wp2_with fail
 all_goals
  go_ret;exact⟨jJ (H.out _ (by simp;omega)),rfl⟩
def ch (w k:Nat):Array Value:=((List.range 8).map λi=>Value.int .u8 (if i<k then ((jt w i:Nat):Int) else 0)).toArray
theorem bC(w k:Nat):(ch w k).size=8:=by simp[ch]
theorem eV(w k i:Nat)(h:i<8):(ch w k)[i]? = some (.int .u8 (if i<k then ((jt w i:Nat):Int) else 0)):=by simp[ch,h]
theorem oN(w k:Nat)(hk:k<8):(ch w k).setIfInBounds k (.int .u8 (jt w k:Nat))=ch w (k+1):=by
 apply kk0;intro i;rw[kja];by_cases h:i<8
 .rw[eV _ _ _ h,eV _ _ _ h];by_cases e:k=i
  .subst e;rw[if_pos rfl,if_pos (by rw[bC];exact h),if_pos (by omega)]
  rw[if_neg e];by_cases a:i<k
  .rw[if_pos a,if_pos (by omega)]
  rw[if_neg a,if_neg (by omega)]
 rw[if_neg (by omega),kjf (by rw[bC];omega),kjf (by rw[bC];omega)]
def iS:Array Value:=Array.replicate 8 (.int .u8 0)
theorem vk(w:Nat):iS=ch w 0:=by simp[iS,ch];rfl
theorem yt(w k:Nat):(w:Int)/2 ^ (8*k)%256=((jt w k:Nat):Int):=by rw[jt,show (256:Nat) ^ k=2 ^ (8*k) by rw[Nat.pow_mul]];rfl
theorem Ki:(prog.info? 308).map (·.size)=some 8:=by kernel_rfl
theorem ld:(prog.info? 5).map (λi=>(i.zero,i.size,i.bytes))=some (some (.int .u8 0),1,1):=by kernel_rfl
theorem I7(w:World):(isAgg 5).run prog w=.ok false w:=by kernel_rfl
theorem kD(x k:Nat):(ch x k).all (·.oneCell')=true:=by rw[kk8];intro i a;rw[bC] at a;have h:=eV x k i a;rw[kjl (by rw[bC];exact a)] at h;injection h with h;rw[h];rfl
theorem Ay(w:World):(zeroValue 308).run prog w=.ok (.agg iS) w:=by kernel_rfl
theorem Ik(x:Nat)(w:World)(hx:x<18446744073709551616):
 Calls prog 288 #[.int .u64 (x:Int)] w λe w'=>e=.returned (.agg (ch x 8))/\Below w.heap.size w w':=by
 have hzv:=Ay;have hx0:(0:Int)<=(x:Int):=by omega
 clear hx;go_enter func288,ntmps288;go_wp2_with fail;go_loopw [4,5] (λi' i wr=>∃k:Nat,k<=8/\i=.int .i64 k/\Bx wr w.heap.size 308 iS/\Bx wr (w.heap.size+1) 308 (ch x k)/\Below w.heap.size w wr) (λ_ i _=>8-(intOf i).toNat)
 case atStart =>
  refine⟨0,kqz _,rfl,(Bx.new w _ _).alloc _,?_,((kqk _ _).alloc (kqa _) _).alloc (by simp) _⟩;have:=Bx.new (w.alloc (.cells iS 308)) 308 iS;rw[kqm] at this;rw[<-vk];exact this
 obtain⟨k,hk,rfl,f,d,n⟩:=hrel;have hz:=n.size;by_cases j:k<8
 .have s:=d.cell k;rw[eV _ _ _ j] at s;have hf:=d.frozen k;have a:=hid d;have q:=hid f;have ik0:(0:Int)<=(k:Int):=by omega
  have ik1:(k:Int)<8:=by omega
  clear f d;go_wp2_with fail;rw[yt];refine⟨⟨k+1,by omega,by go_num,q.out.far (p:=⟨w.heap.size+1,k,none⟩) (by dsimp only;omega) _,?_,n.setCell (p:=⟨w.heap.size+1,k,none⟩) (by dsimp only;omega) _⟩,by simp[intOf];omega⟩;rw[<-oN x k j];exact a.out.set_ k _
 obtain rfl:k=8:=by omega
 have m:(prog.info? 308).map (·.size)=some (ch x 8).size:=by rw[bC];exact Ki
 have l:=kD x 8;have b:=kj f;rw[show iS.size=(ch x 8).size by rw[bC];simp[iS]] at b;have h:=hid (fX f (cs:=ch x 8) (by rw[bC];simp[iS]));have a:=hid d;have g:=hid (bh (kqa _) (ch x 8).toList (o:=0) n);clear f d;obtain⟨cs,c⟩:=xq (ch x 8);have r:=hid c;rw[c] at m l b h a g;clear c;go_wp2_with (first
  | (refine kxj rfl _ _ rfl (w.heap.size+1) (by rfl) 308 cs (0,0) _ a.out underlying308 (by rfl) m ?_)
  | (refine kju rfl _ _ _ rfl w.heap.size 0 cs (by rfl) (by rfl) b m l ?_))
 exact kqq (v:=.agg cs) (results_cell_row rfl _ _ w.heap.size _ cs (0,0) _ (by rfl) h.out underlying308 (by rfl) m) rfl ⟨by rw[r.out],g.out⟩
theorem mK(n:Nat):IntKind.u64.wrap (n:Int)=((n%18446744073709551616:Nat):Int):=by simp[IntKind.wrap,IntKind.bits,IntKind.signed]
theorem Cs(s:Nat)(A:Option Addr)(l:List Nat)(c n:Nat)(w:World)(hn:l.length=n)(hm:n<=2048)(hs:s<18446744073709551616)(hr:RdW w w.heap.size A l)(ho:∀x∈l,x<18446744073709551616):
 Calls prog 264 #[.int .u64 (s:Int),.slice A n c] w λe w'=>e=.returned (.tuple #[.int .u64 (a8 s l:Nat),.int .i64 0])/\Below w.heap.size w w':=by
 subst hn;have W:=hid hr;have V:=hid ho;have U:=hid hs;clear hr ho hs;obtain⟨i0,K,h,o,r⟩:=kzr ld;have T:=hid K;have HZ0:=hid h;have G:=hid o;have HZ2:=hid r;clear K h o r;go_enter func264,ntmps264;go_wp2_with fail;go_loopw [0,15] (λC i wr=>∃k:Nat,k<=l.length/\i=.int .i64 k/\C=.int .u64 (a8 s (l.take k):Nat)/\Below w.heap.size w wr) (λ_ i _=>l.length-(intOf i).toNat)
 case atStart=>exact⟨0,kqz _,rfl,rfl,kqk _ _⟩
 obtain⟨k,hk,rfl,rfl,z⟩:=hrel;have R:=z.size;by_cases g:k<l.length
 .obtain ⟨b,F,rfl,S,I⟩:=RdW.at_ W.out g;replace I:=(z.cell (p:=⟨b,F+k,none⟩) S).trans I;have Q:=hid (V.out l[k] (kqn g));have E:=hid (mS g s);obtain⟨x,J⟩:=xq (l[k]);rw[J] at I Q E;have L:=hid (iY U.out (l.take k));obtain⟨q,N⟩:=xq (a8 s (l.take k));rw[N] at E L |-;clear J N;have ik1:(0:Int)<=(k:Int):=by omega
  have ik2:(k:Int)<(l.length:Int):=by omega
  go_wp2_with fail;refine (Ik x _ Q.out).mono ?_;rintro e w1 ⟨rfl,H⟩;have D:=z.trans (H.mono R);go_wp2_with fail;go_loopw [0,21] (λC i wr=>∃j:Nat,j<=8/\i=.int .i64 j/\C=.int .u64 (DL q x j:Nat)/\Below w.heap.size w wr) (λ_ i _=>8-(intOf i).toNat)
  case atStart=>exact⟨0,kqz _,rfl,rfl,D⟩
  obtain⟨j,hj,rfl,rfl,m⟩:=hrel;by_cases d:j<8
  .have a:=eV x 8 j d;rw[if_pos d] at a;have v:=rm (P:=prog) underlying308 T.out G.out I7 d a;have B:=sN x j;have t:=hid (uH L.out x j);have f:Hid (DL q x (j+1)=Hc (DL q x j) (jt x j)):=hid rfl;obtain⟨p,M⟩:=xq (DL q x j);obtain⟨y,O⟩:=xq (jt x j);rw[M] at t f |-;rw[O] at B v f;clear M O a;have u:=hid (u64_xor_nat p y t.out (by omega));have hxor:=u.out;go_wp2_with fail;refine⟨⟨j+1,by omega,by go_num,?_,m⟩,by simp[intOf];omega⟩;rw[f.out];unfold Hc;rw[<-mK,kk1];rfl
  obtain rfl:j=8:=by omega
  go_wp2;go_roundw
  case rel=>exact⟨k+1,by omega,by go_num,by rw[E.out];rfl,m⟩
  case measure=>simp[intOf];omega
 obtain rfl:k=l.length:=by omega
 rw[kzf];go_wp2;go_ret2;exact⟨rfl,z⟩
theorem qo(A:Option Addr)(l:List Nat)(c n:Nat)(w:World)(hn:l.length=n)(hm:n<=2048)(hr:RdW w w.heap.size A l)(ho:∀x∈l,x<18446744073709551616):
 Calls prog 222 #[.slice A n c] w λe w'=>e=.returned (.tuple #[.int .u64 (a8 14695981039346656037 l:Nat),.int .i64 0])/\Below w.heap.size w w':=by have g:=hid hr;have f:=hid ho;have h:=hid hn;clear hr ho hn;go_enter func222,ntmps222;go_wp2_with fail;refine (Cs 14695981039346656037 A l c n w h.out hm (by omega) g.out f.out).mono ?_;rintro e w1 ⟨rfl,a⟩;obtain⟨q,b⟩:=xq (a8 14695981039346656037 l);have d:=hid b;rw[b];clear b;go_wp2;go_ret2;exact⟨by rw[d.out];rfl,a⟩
theorem xS(s:Nat):s &&& 4294967295=s%4294967296:=by rw[show (4294967295:Nat)=2 ^ 32-1 from rfl,kxk]
theorem Gn(w:World):Calls prog 224 #[.int .i64 0,.int .i64 32] w λe w'=>e=.returned (.int .u64 4294967295)/\w=w':=by go_enter func224,ntmps224;go_wp2;go_ret;exact⟨rfl,rfl⟩
theorem IK(s:Nat)(w:World)(hs:s<18446744073709551616):Calls prog 223 #[.int .u64 (s:Int),.int .i64 0,.int .i64 32] w λe w'=>e=.returned (.tuple #[.int .u64 ((s%4294967296:Nat):Int),.int .i64 0])/\w=w':=by have b:=hid (u64_and_nat s 4294967295 hs (by omega));clear hs;go_enter func223,ntmps223;go_wp2_with fail;refine (Gn w).mono ?_;rintro e w1 ⟨rfl,rfl⟩;have a:=b.out;rw[xS] at a;go_wp2;go_ret2;exact⟨by rw[<-a];rfl,rfl⟩
theorem zp(A:Option Addr)(l:List Nat)(c n:Nat)(w:World)(hn:l.length=n)(hm:n<=2048)(a:RdW w w.heap.size A l)(ho:∀x∈l,x<18446744073709551616):
 Calls prog 177 #[.slice A n c,.int .i64 32] w λe w'=>e=.returned (.tuple #[.int .u64 ((a8 14695981039346656037 l%4294967296:Nat):Int),.int .i64 0])/\Below w.heap.size w w':=by have j:=hid a;have i:=hid ho;have k:=hid hn;clear a ho hn;have h:=hid (iY (s:=14695981039346656037) (by omega) l);go_enter func177,ntmps177;go_wp2_with fail;refine (qo A l c n w k.out hm j.out i.out).mono ?_;rintro e w1 ⟨rfl,b⟩;obtain⟨q,d⟩:=xq (a8 14695981039346656037 l);have f:=hid d;rw[d] at h |-;clear d;go_wp2_with fail;refine (IK q _ h.out).mono ?_;rintro e w2 ⟨rfl,rfl⟩;obtain⟨r,a⟩:=xq (q%4294967296);have g:=hid a;rw[a];clear a;go_wp2;go_ret2;exact⟨by rw[f.out,g.out];rfl,b⟩
theorem fK(n:Nat):ub n=ak (n:Int):=by rw[kzl,ab];simp only[ub,kqu,kzd,kqx];omega
def aj (ws:List Nat):Int:=if ak (ws.length:Int)=true then (match blocks ws 128 with | none=>50 | some l=>if l.all (dW ws)=true then 0 else 50) else 8
def ah (ws:List Nat):List Bk:=if aj ws=0 then (blocks ws 128).getD [] else []
theorem nN(h:ak (ws.length:Int)=false):aj ws=8:=by simp[aj,h]
theorem yO(h:ak (ws.length:Int)=true)(h2:blocks ws 128=none):aj ws=50:=by simp[aj,h,h2]
theorem tN(h:ak (ws.length:Int)=true)(h2:blocks ws 128=some l)(h3:l.all (dW ws)=false):aj ws=50:=by simp only[aj,h,h2,h3,if_true,kzm,if_false]
theorem fM(h:ak (ws.length:Int)=true)(h2:blocks ws 128=some l)(h3:l.all (dW ws)=true):aj ws=0/\ah ws=l:=by
 have:aj ws=0:=by simp only[aj,h,h2,h3,if_true]
 exact⟨this,by simp[ah,this,h2]⟩
theorem aA(h:aj ws=0):ak (ws.length:Int)=true/\∃l,blocks ws 128=some l/\l.all (dW ws)=true/\ah ws=l:=by
 have b:=h;unfold aj at h;split at h
 .rename_i h1;refine⟨h1,?_⟩;cases a:blocks ws 128 with
  | none=>rw[a] at h;cases h
  | some l =>
   rw[a] at h;dsimp only at h;split at h
   .rename_i h2;exact⟨l,rfl,h2,by simp[ah,b,a]⟩
   cases h
 cases h
theorem C7(ws:List Nat):aj ws=0\/aj ws=8\/aj ws=50:=by
 unfold aj;split
 .cases blocks ws 128 with
  | none=>simp
  | some l=>dsimp only;split<;>simp
 simp
def fY:List (Int × Int)->Int->Option Int
 | [],_=>none
 | m::l,a=>if m.1=a then some m.2 else fY l a
theorem IC{l:List (Int × Int)}{p:Nat}(hp:p<l.length)(h:∀q (a:q<p),(l[q]'(by omega)).1≠l[p].1):fY l l[p].1=some l[p].2:=by
 induction l generalizing p with
 | nil=>simp at hp
 | cons m l ih =>
  cases p with
  | zero=>simp[fY]
  | succ p =>simp only[fY,kqc];rw[if_neg (by simpa using h 0 (by omega))];exact ih (by simpa using hp) (λq a=>by simpa using h (q+1) (by omega))
theorem zb(h:cu l=0)(s:Int)(hmn:m<=n)(hn:n<=l.length):aO (l.take m) s<=aO (l.take n) s:=by
 obtain⟨_,b⟩:=dG h
 induction n with
 | zero =>
  have:m=0:=by omega
  subst this;exact kks _
 | succ n ih =>
  rcases kq7 n m with a|a
  .have:m=n+1:=by omega
   subst this;exact kks _
  have h4:=ih a (by omega);have c:=(eP _).1 (eg b (show n<l.length by omega)).1;rw[bU l n (by omega)] at c;rw[iP (by omega)];split<;>omega
theorem zx :∀ {s:Int},az l s=[]->aO l s=s:=by
 induction l with
 | nil=>intro s _;rfl
 | cons b l ih =>
  intro s h;simp only[az,aO] at h |-;split at h
  .simp at h
  rename_i hb;rw[if_neg hb];exact ih h
theorem pe(s:Int)(hmn:m<=n):(az (l.take m) s).length<=(az (l.take n) s).length:=by
 have:l.take n=l.take m++(l.take n).drop m:=by
  conv=>lhs;rw[<-kxb m (l.take n),kkg,kxg hmn]
 rw[this,fR,kqs];omega
theorem yQ(h:cu l=0){s:Int}(hs:s<=ny l):(∀p (b:p<(az l s).length),((az l s)[p]).2<=((az l s)[p]).1/\fY (az l s) ((az l s)[p]).1=some ((az l s)[p]).2) /\
 (∀p q (e:q<(az l s).length) (d:p<q),((az l s)[p]'(by omega)).2<((az l s)[q]).2/\((az l s)[p]'(by omega)).1<((az l s)[q]).1)/\(∀(b:0<(az l s).length),((az l s)[0]).2=s):=by
 obtain⟨_,v⟩:=dG h;have f:∀p q (e:q<(az l s).length) (d:p<q),((az l s)[p]'(by omega)).2<((az l s)[q]).2/\((az l s)[p]'(by omega)).1<((az l s)[q]).1:=by
  intro p q e d;obtain⟨k,c,o,a,n⟩:=jM (show p<(az l s).length by omega);obtain⟨m,t,b1,g,b3⟩:=jM e;rw[kql (by omega)] at a g;have a:=Option.some.inj a;have g:=Option.some.inj g;have j:k<m:=by
   rcases kq7 k m with i|i
   .exact i
   have:=pe (l:=l) s i;omega
  have w:=zb h s (show k+1<=m by omega) (by omega);have u:=(eP _).1 (eg v c).1;rw[bU l k c] at u;rw[iP c,if_pos o] at w;have r:=lZ h t j;rw[bU l k c,bU l m t] at r;rw[a,g];exact⟨by dsimp only;omega,r⟩
 refine⟨λp b=>?_,f,λb=>?_⟩
 .refine ⟨?_,IC b (λq e=>by have:=(f q p b e).2;omega)⟩;obtain⟨k,c,o,a,n⟩:=jM b;rw[kql b] at a;rw[Option.some.inj a];have:=tU h hs c;rw[bU l k c] at this;exact this
 obtain⟨k,c,o,a,n⟩:=jM b;rw[kql b] at a;rw[Option.some.inj a];exact zx (kx4 n)
def eQ (l:List Bk):List Int:=(l.filter (·.mark)).map Bk.at_
theorem ms:∀ {l:List Bk},(∀b∈l,b.mark=true->b.kind=1)->∀s,eQ l=(az l s).map Prod.fst:=by
 intro l
 induction l with
 | nil=>intro _ s;rfl
 | cons b l d =>
  intro h s;have d:=d (λc f=>h c (by simp[f]));cases a:b.mark with
  | true =>
   have e:aR b=true:=by simp[aR,a,h b (by simp) a]
   simp only[eQ,kjt,a,if_true,kxm,az,e];congr 1;exact d (s+b.size)
  | false =>
   have e:aR b=false:=by simp[aR,a]
   simp only[eQ,kjt,a,kzm,if_false,az,e];exact d s
theorem jE(h:blocks ws i=some l)(h2:i%2=0):∀b∈l,b.mark=true->b.kind=1:=by
 intro b n g;obtain⟨m,d,rfl⟩:=kq0 n;obtain⟨a,e,-,-,-,k,-⟩:=cC _ _ h h2 m d;have j:=(bH _).1 (fG k);rw[e] at g |-;have f:(ap (wd ws a)).mark=true:=g;show (ap (wd ws a)).kind=1;rcases j.2 with c|c
 .exact c.1
 rw[f] at c;exact absurd c.2.2.1 (by simp)
theorem tV{a:Bk}(h:aR a=aR b)(s:Int):bG a s=bG b s:=by unfold bG;rw[h]
theorem uW{a:Bk}(h:aR a=aR b)(h2:a.size=b.size)(s:Int):fg a s=fg b s:=by unfold fg;rw[h,h2]
theorem ox:∀ {l:List Bk} {s:Int},aY (fwB l s) s=[]:=by
 intro l
 induction l with
 | nil=>intro s;rfl
 | cons b l ih =>
  intro s;simp only[fwB,aY];have c:aR (if b.kind=1 then { b with next:=bG b s } else b)=aR b:=by split<;>rfl
  have e:(if b.kind=1 then { b with next:=bG b s } else b).size=b.size:=by split<;>rfl
  have f:fg (if b.kind=1 then { b with next:=bG b s } else b) s=fg b s:=uW c e s;have d:bG (if b.kind=1 then { b with next:=bG b s } else b) s=bG b s:=tV c s;rw[f,ih,d];by_cases a:b.kind=1
  .rw[if_pos a,if_neg (λh=>h.2 rfl)];rfl
  rw[if_neg a,if_neg (λh=>a h.1)];rfl
theorem DS{xs:List Nat}(hw:∀j,j<128->wd xs j=wd ws j)(hb:b.kind=1->tyA b+1<128)(s:Int):dW xs (if b.kind=1 then { b with next:=bG b s } else b)=dW ws b:=by
 by_cases a:b.kind=1
 .rw[if_pos a];have h2:=hb a;unfold dW dj;show (b.kind != 1||(cD (wd xs (tyA b)) (wd xs (tyA b+1))&&b.size==((bg (wd xs (tyA b)%256):Nat):Int)))=_;rw[hw _ (by omega),hw _ (by omega)]
 rw[if_neg a];have:(b.kind != 1)=true:=by rw[kqv];exact a
 simp[dW,this]
theorem EY{xs:List Nat}(hw:∀j,j<128->wd xs j=wd ws j):∀ {l:List Bk} {s:Int},(∀b∈l,b.kind=1->tyA b+1<128)->(∀b∈l,0<=b.size)->l.all (dW ws)=true->0<=s->cn xs (fwB l s) s=true/\(fwB l s).all (dW xs)=true:=by
 intro l
 induction l with
 | nil=>intro s _ _ _ _;exact⟨rfl,rfl⟩
 | cons b l ih =>
  intro s i h f hs;simp only[List.all_cons,kqu] at f;have e:=DS hw (i b (by simp)) s;have k:aR (if b.kind=1 then { b with next:=bG b s } else b)=aR b:=by split<;>rfl
  have n:(if b.kind=1 then { b with next:=bG b s } else b).size=b.size:=by split<;>rfl
  obtain⟨d,m⟩:=ih (s:=fg b s) (λc g=>i c (by simp[g])) (λc g=>h c (by simp[g])) f.2 (by have:=h b (by simp);unfold fg;split<;>omega);refine⟨?_,by simp only[fwB,List.all_cons,e,f.1,m,kzq]⟩;simp only[fwB,cn,e,f.1,kzq,k,n];unfold fg at d |-;cases a:aR b with
  | true =>
   have o:b.kind=1:=by simp[aR] at a;exact a.1
   simp only[a,if_true] at d |-;rw[d,Bool.and_true,if_pos o];simp only[bG,a,if_true,kqx];omega
  | false =>simp only[a,kzm,if_false] at d |-;exact d
theorem pT(h:aj ws=0):∃l,blocks ws 128=some l/\ah ws=l/\eJ l 128=0/\bj (ai ws (aY l 128)) 128 128=0/\iH (ai ws (aY l 128)) 128 128=az l 128 /\
 aj (ai ws (aY l 128))=0/\ah (ai ws (aY l 128))=fwB l 128/\aY (fwB l 128) 128=[]/\eQ l=(az l 128).map Prod.fst:=by
 obtain⟨n,l,d,p,u⟩:=aA h;have o:=(ab _).1 n;have f:=lD (i:=128) (by omega) d (by omega) (by omega) (by omega) (s:=128) (by omega) (by omega) (by omega);obtain⟨hre,-⟩:=fd f;obtain⟨k,t⟩:=tT _ ws 128 l (kqa _) d 128;have c:(ai ws (aY l 128)).length=ws.length:=au _ _;obtain⟨x,q⟩:=EY (xs:=ai ws (aY l 128)) (λj hj=>t j (by omega)) (l:=l) (s:=128) (iN d (by omega)) (λb o=>by
  obtain⟨m,y,rfl⟩:=kq0 o;obtain⟨a,e,-⟩:=cC _ _ d (by omega) m y;rw[e,bo];omega) p (by omega)
 have g:bj (ai ws (aY l 128)) 128 128=0:=by
  rw[jc (l:=fwB l 128) (by rw[c,fK];exact n) ?_ k,if_pos x];rw[c];cases v:gq ws.length 128 128 with
  | false=>rfl
  | true=>exact absurd (by omega) ((lw _ _ _).1 v)
 obtain⟨r,w⟩:=fM (by rw[c];exact n) k q;refine⟨l,d,u,f,g,?_,r,w,ox,ms (jE d (by omega)) 128⟩;unfold iH;rw[if_pos g];show (match blocks (ai ws (aY l 128)) 128 with|none=>[] | some l=>az l 128)=_;rw[k];exact Ex.2.1
theorem De :∀i l,blocks ws i=some l->∀s,(aY l s).Pairwise (λa b=>a.a<b.a):=by
 refine dP _ (λi _ s=>List.Pairwise.nil) (λi l hi f d c s=>?_);have hsz:=aJ f;simp only[aY];split
 .refine List.Pairwise.cons (λe g=>?_) (c _);have:=qq _ _ d _ e g;show (bkAt ws i).at_+1<e.a;rw[af];omega
 exact c _
def jx (b:Bk):Int:=if jB b=true then 0 else 8
theorem js(h:jB b=true):jx b=0:=by simp[jx,h]
theorem nk(h:jB b=false):jx b=8:=by simp[jx,h]
theorem Dp{xs:Int}(h:(2<=xs/\xs%2=0)/\(xk=1/\0<=xt/\xt<8/\xs<=10\/xk=2/\xt=0/\xm=false/\xs<=1920)):(0:Int)=jx ⟨xa,xs,xk,xt,xm,xn⟩:=(js ((bH _).2 h)).symm
theorem z8{xs:Int}(h:¬ ((2<=xs/\xs%2=0)/\(xk=1/\0<=xt/\xt<8/\xs<=10\/xk=2/\xt=0/\xm=false/\xs<=1920))):(8:Int)=jx ⟨xa,xs,xk,xt,xm,xn⟩:=
 (nk (by
  cases a:jB ⟨xa,xs,xk,xt,xm,xn⟩ with
  | false=>rfl
  | true=>exact absurd ((bH _).1 a) h)).symm
theorem sm(b:Bk)(w:World):Calls prog 165 #[b.val] w λe w'=>e=.returned (.int .i64 (jx b))/\Below w.heap.size w w':=by
 obtain⟨xa,xs,xk,xt,a,xn⟩:=b;unfold Bk.val;cases a
 all_goals
  go_enter func165,ntmps165;go_wp2_with fail
  all_goals
   go_ret;refine⟨?_,(kqk _ _).alloc (kqa _) _⟩;(try simp only[kqv,ne_eq,kqr,kx7,kk2,kqh,kzd] at *)
   first
    | (exfalso;omega)
    | exact nn (Dp (by simp only[reduceCtorEq,and_false,false_and,or_false,true_and];omega))
    | exact nn (z8 (by simp only[reduceCtorEq,and_false,false_and,or_false,true_and];omega))
def OfRes (b:Bk) (e:Ending):Prop:=∃a1 a2 a3 a4,e=.returned (.agg #[.int .u64 (lS b:Nat),a1,a2,a3,a4])
theorem kJ{a:Nat}(ha:a<2 ^ i):a ||| x*2 ^ i=a+x*2 ^ i:=by rw[Nat.or_comm,nat_join i _ a (by simp) ha,kjw]
theorem wY{K M T S:Nat}{m:Int}(hK:K<256)(hM:M<=1)(hT:T<128)(hS:S<65536)(hm:m=((M*256:Nat):Int)):
 bits BinOp.or .u64 (bits BinOp.or .u64 (bits BinOp.or .u64 (K:Int) m) ((T:Int)*512)) ((S:Int)*65536)=((K+M*256+T*512+S*65536:Nat):Int):=by
 subst hm;have b:=u64_or_nat K (M*256) (by omega) (by omega);have e:K ||| M*256=K+M*256:=by rw[show M*256=M*2 ^ 8 from rfl,kJ hK]
 rw[e] at b;rw[b];have a:=u64_or_nat (K+M*256) (T*512) (by omega) (by omega);have d:K+M*256 ||| T*512=K+M*256+T*512:=by rw[show T*512=T*2 ^ 9 from rfl,kJ (by omega)]
 rw[d] at a;rw[show ((T:Int)*512)=((T*512:Nat):Int) by simp,a];have c:=u64_or_nat (K+M*256+T*512) (S*65536) (by omega) (by omega);have f:K+M*256+T*512 ||| S*65536=K+M*256+T*512+S*65536:=by rw[show S*65536=S*2 ^ 16 from rfl,kJ (by omega)]
 rw[f] at c;rw[show ((S:Int)*65536)=((S*65536:Nat):Int) by simp,c]
theorem od(w:World)(cs:List Value)(t:TypeId):Rd (w.alloc (.cells cs.toArray t)) (w.heap.size+1) (some ⟨w.heap.size,0,none⟩) cs:=λ_ =>
 ⟨w.heap.size,0,rfl,by omega,λj a=>by
  have:=(Bx.new w t cs.toArray).cell j
  rw[kxd,this]
  simp[a]⟩
theorem hdOf_c(b:Bk)(w:World)(hb:jB b=true):Calls prog 166 #[b.val] w λe w'=>OfRes b e/\Below w.heap.size w w':=by
 obtain⟨d,c,a,g,f,h,h7⟩:=uq hb;clear hb;obtain⟨xa,xs,xk,xt,i,xn⟩:=b;dsimp only at *;obtain⟨K,rfl⟩:=kq1 g;obtain⟨T,rfl⟩:=kq1 f;obtain⟨S,rfl⟩:=kq1 h;simp only[kqj] at d c a;unfold Bk.val;cases i
 all_goals
  go_enter func166,ntmps166;go_wp2_with fail
 .refine kqq (v:=.agg #[.int .u64 (bits BinOp.or .u64 (bits BinOp.or .u64 (bits BinOp.or .u64 (K:Int) 0) ((T:Int)*512)) ((S:Int)*65536)),.int .u64 (K:Int),.int .u64 (T:Int),.int .u64 (S:Int),.int .u64 0]) (by simp[results,results166,go_sem]) rfl ⟨?_,?_⟩
  .refine ⟨.int .u64 (K:Int),.int .u64 (T:Int),.int .u64 (S:Int),.int .u64 0,?_⟩;rw[wY (M:=0) d (by omega) c a (by simp)];rfl
  exact (((kqk _ _).alloc (kqa _) _).alloc (by simp) _).alloc (by simp;omega) _
 refine kqq (v:=.agg #[.int .u64 (bits BinOp.or .u64 (bits BinOp.or .u64 (bits BinOp.or .u64 (K:Int) 256) ((T:Int)*512)) ((S:Int)*65536)),.int .u64 (K:Int),.int .u64 (T:Int),.int .u64 (S:Int),.int .u64 1]) (by simp[results,results166,go_sem]) rfl ⟨?_,?_⟩
 .refine ⟨.int .u64 (K:Int),.int .u64 (T:Int),.int .u64 (S:Int),.int .u64 1,?_⟩;rw[wY (M:=1) d (by omega) c a (by simp)];rfl
 exact (((kqk _ _).alloc (kqa _) _).alloc (by simp) _).alloc (by simp;omega) _
theorem or32{t:Nat}(hx:x<4294967296)(ht:t<4294967296):bits BinOp.or .u64 (x:Int) ((t:Int)*4294967296)=((x+t*4294967296:Nat):Int):=by have h:=u64_or_nat x (t*4294967296) (by omega) (by omega);rw[show t*4294967296=t*2 ^ 32 from rfl,kJ (i:=32) (by omega)] at h;rw[<-h];simp
theorem FW(x:Nat)(w:World)(hx:x<4294967296):Calls prog 167 #[.int .u64 (x:Int)] w λe w'=>e=.returned (.tuple #[.int .u64 ((x+iz x%4294967296*4294967296:Nat):Int),.int .i64 0])/\Below w.heap.size w w':=by
 have d:iz x%4294967296<4294967296:=kz0 _ (by omega);have b:=hid (or32 hx d);have j:=hid hx;have hx0:(0:Int)<=(x:Int):=by omega
 have k:Hid (a8 14695981039346656037 [x]=iz x):=hid rfl;clear hx;go_enter func167,ntmps167;go_wp2_with fail;have c:=od w [.int .u64 (x:Int)] 53;refine (zp _ [x] _ 1 _ rfl (by omega) (by rw[kqm];exact c) (by intro y h;simp at h;subst h;have:=j.out;omega)).mono ?_;rintro e w1 ⟨rfl,a⟩;rw[kqm] at a;have f:=ay a;rw[k.out];obtain⟨t,g⟩:=xq (iz x%4294967296);have i:=hid g;rw[g] at d b |-;clear g a c;go_wp2;go_ret2;exact⟨by rw[i.out,<-b.out];rfl,f⟩
def jH (b:Bk):Nat:=if jB b=true then cS b else 0
theorem qw(b:Bk)(w:World):Calls prog 105 #[b.val] w λe w'=>e=.returned (.tuple #[.int .u64 (jH b:Nat),.int .i64 (jx b)])/\Below w.heap.size w w':=by
 cases c:jB b
 .have i:=hid (show jH b=0 by simp[jH,c]);have f:=hid (nk c);have d:=hid (λW=>sm b W);clear c;obtain⟨C,xs,z,v,B,y⟩:=b;unfold Bk.val at d |-;dsimp only at d |-;go_enter func105,ntmps105;go_wp2_with fail;refine (d.out _).mono ?_;rintro e r ⟨rfl,a⟩;rw[kqm] at a;rw[f.out];go_wp2;go_ret2;exact⟨by rw[i.out,f.out];rfl,ay a⟩
 have i:=hid (show jH b=lS b+iz (lS b)%4294967296*4294967296 by simp[jH,c,cS]);have f:=hid (js c);have d:=hid (λW=>sm b W);have k:=hid (λW=>hdOf_c b W c);have p:=hid (vP c);clear c;obtain⟨q,m⟩:=xq (lS b);have s:=hid m;rw[m] at i p;clear m;obtain⟨C,xs,z,v,B,y⟩:=b;unfold Bk.val at d k |-;dsimp only at d k |-;go_enter func105,ntmps105;go_wp2_with fail;refine (d.out _).mono ?_;rintro e r ⟨rfl,a⟩;rw[kqm] at a;have g:=ay a;have o:=Bx.of_new a;obtain⟨c0,c1,c2,c3,c4,c5,-,hz⟩:=o.c6;rw[f.out];clear o a;go_wp2_with fail;refine (k.out _).mono ?_;rintro e w2 ⟨⟨u,A,t,x,rfl⟩,j⟩;have h:=g.trans (j.mono g.size);rw[s.out];have hfld:∀W,(Instr.field 231 (.agg #[.int .u64 (q:Int),u,A,t,x]) 0).run prog W=.ok (.int .u64 (q:Int)) W:=λ_=>by kernel_rfl
 go_wp2_with fail;refine (FW q _ p.out).mono ?_;rintro e w3 ⟨rfl,n⟩;have l:=h.trans (n.mono h.size);rw[<-i.out];go_wp2;go_ret2;exact⟨by rw[f.out];rfl,l⟩
def mW:Bk:=⟨0,0,0,0,false,0⟩
def Eg (w:Nat):Bk:=if aG w=true then ap w else mW
def nG (w:Nat):Int:=if aG w=true then 0 else 50
theorem mM{w:Nat}(h:aG w=true):Eg w=ap w/\nG w=0:=by simp[Eg,nG,h]
theorem mP{w:Nat}(h:aG w=false):Eg w=mW/\nG w=50:=by simp[Eg,nG,h]
theorem uS(hx:x<18446744073709551616)(hm:m=2 ^ k-1)(hk:m<18446744073709551616):bits BinOp.and .u64 (x:Int) (m:Int)=((x%2 ^ k:Nat):Int):=by rw[u64_and_nat x m hx hk,hm,kxk]
theorem uX(w:Nat)(hw:w<18446744073709551616):bits BinOp.and .u64 (w:Int) 255=((w%256:Nat):Int)/\bits BinOp.and .u64 ((w:Int)/256) 1=((w/256%2:Nat):Int)/\bits BinOp.and .u64 ((w:Int)/512) 127=((w/512%128:Nat):Int)/\bits BinOp.and .u64 ((w:Int)/65536) 65535=((w/65536%65536:Nat):Int):=
 ⟨uS (k:=8) (m:=255) hw (by decide) (by omega),uS (x:=w/256) (k:=1) (m:=1) (by omega) (by decide) (by omega),uS (x:=w/512) (k:=7) (m:=127) (by omega) (by decide) (by omega),uS (x:=w/65536) (k:=16) (m:=65535) (by omega) (by decide) (by omega)⟩
theorem aZ{fn:Func}{p q:Tmp}(h:fn.results=#[.cell p 55,.tmp q])(tmps:Array Value){W:World}{v0 v1 v2 v3 v4 v5 u:Value}(hb:Bx W g t #[v0,v1,v2,v3,v4,v5])(hp:tmps.getD p undef=.pointer (some ⟨g,0,none⟩))(hq:tmps.getD q undef=u):
 (results fn tmps).run prog W=.ok (.tuple #[.agg #[v0,v1,v2,v3,v4,v5],u]) W:=by obtain⟨e,c,a,d,b,f,-,-⟩:=hb.c6;rw[kxt] at hp hq;simp[results,h,hp,hq,go_sem,e,c,a,d,b,f]
theorem nW(x:Nat)(w:World)(hx:x<18446744073709551616):Calls prog 172 #[.int .u64 (x:Int)] w λe w'=>e=.returned (.tuple #[(Eg x).val,.int .i64 (nG x)])/\Below w.heap.size w w':=by
 obtain⟨e1,Z,Q,P⟩:=uX x hx;have l:=hid (λW=>qw (ap x) W);have t:Hid (jx (ap x)=0->jH (ap x)=x->Eg x=ap x/\nG x=0):=hid λL X=>mM (by
  have J:jB (ap x)=true:=by
   cases r:jB (ap x) with
   | true=>rfl
   | false=>rw[nk r] at L;cases L
  simp only[jH,J,if_true] at X;simp[aG,J,X])
 have m:Hid (jx (ap x)≠0\/jH (ap x)≠x->Eg x=mW/\nG x=50):=hid λh=>mP (by
  cases r:jB (ap x) with
  | false=>simp[aG,r]
  | true =>
   rcases h with h|h
   .exact absurd (js r) h
   simp only[jH,r,if_true] at h;simp[aG,r,h])
 have hx0:(0:Int)<=(x:Int):=by omega
 have f:(ap x).val=.agg #[.int .i64 0,.int .i64 ((x/65536%65536:Nat):Int),.int .i64 ((x%256:Nat):Int),.int .i64 ((x/512%128:Nat):Int),.bool (x/256%2==1),.int .u64 0]:=rfl;have Y:x%256<256:=kz0 _ (by omega);have O:x/256%2<2:=kz0 _ (by omega);have I:x/512%128<128:=kz0 _ (by omega);have N:x/65536%65536<65536:=kz0 _ (by omega);rw[f] at l;have a:=hid f;have c:((((x/256%2:Nat):Int))==1)=(x/256%2==1):=by rw[kzl,kqx,kqx];omega
 obtain⟨K,U⟩:=xq (x%256);obtain⟨M,hM⟩:=xq (x/256%2);obtain⟨T,hT⟩:=xq (x/512%128);obtain⟨S,hS⟩:=xq (x/65536%65536);rw[U] at e1 Y l a;rw[hM] at Z O c l a;rw[hT] at Q I l a;rw[hS] at P N l a;obtain⟨s,y⟩:=xq ((M==1));rw[y] at c l a;obtain⟨V,q⟩:=xq (jH (ap x));obtain⟨R,g⟩:=xq (jx (ap x));rw[q,g] at t m l;clear hx f U hM hT hS y q g;go_enter func172,ntmps172;go_wp2_with fail;have D:=(Bx.new w 55 #[.int .i64 0,.int .i64 0,.int .i64 0,.int .i64 0,.bool false,.int .u64 0]).alloc (.cells #[.int .i64 0,.int .i64 (S:Int),.int .i64 (K:Int),.int .i64 (T:Int),.bool s,.int .u64 0] 55);have E:=Bx.new (w.alloc (.cells #[.int .i64 0,.int .i64 0,.int .i64 0,.int .i64 0,.bool false,.int .u64 0] 55)) 55 #[.int .i64 0,.int .i64 (S:Int),.int .i64 (K:Int),.int .i64 (T:Int),.bool s,.int .u64 0];have i:Below w.heap.size w ((w.alloc (.cells #[.int .i64 0,.int .i64 0,.int .i64 0,.int .i64 0,.bool false,.int .u64 0] 55)).alloc (.cells #[.int .i64 0,.int .i64 (S:Int),.int .i64 (K:Int),.int .i64 (T:Int),.bool s,.int .u64 0] 55)):=((kqk _ _).alloc (kqa _) _).alloc (by simp) _;have B:((w.alloc (.cells #[.int .i64 0,.int .i64 0,.int .i64 0,.int .i64 0,.bool false,.int .u64 0] 55)).alloc (.cells #[.int .i64 0,.int .i64 (S:Int),.int .i64 (K:Int),.int .i64 (T:Int),.bool s,.int .u64 0] 55)).heap.size=w.heap.size+2:=by simp
 rw[kqm] at E;obtain⟨G,C⟩:∃G,(w.alloc (.cells #[.int .i64 0,.int .i64 0,.int .i64 0,.int .i64 0,.bool false,.int .u64 0] 55)).alloc (.cells #[.int .i64 0,.int .i64 (S:Int),.int .i64 (K:Int),.int .i64 (T:Int),.bool s,.int .u64 0] 55)=G:=⟨_,rfl⟩;rw[C] at D E i B |-;clear C;refine (l.out G).mono ?_;rintro e w1 ⟨rfl,d⟩;have o:=i.trans (d.mono i.size);obtain⟨c0,c1,c2,c3,c4,c5,n,cz⟩:=(D.up d (by omega)).c6;obtain⟨d0,d1,d2,d3,d4,d5,df,dz⟩:=(E.up d (by omega)).c6;have cf0:=n 0;have cf1:=n 1;have cf2:=n 2;have cf3:=n 3;have cf4:=n 4;have cf5:=n 5;have F:=hid (D.up d (by omega));clear D E d i B n df e1 Z Q P c Y O I N;by_cases g:R=0
 .by_cases q:V=x
  .obtain ⟨j,k⟩:=t.out g q;have A:=hid j;have u:=hid k;have z:(R != 0)=false:=by rw[kqr];exact g
   have H:((V:Int) != (x:Int))=false:=by rw[kqr];omega
   clear g q j k;go_wp2_with fail;refine kqq (v:=.tuple #[.agg #[.int .i64 0,.int .i64 (S:Int),.int .i64 (K:Int),.int .i64 (T:Int),.bool s,.int .u64 0],.int .i64 0]) (aZ results172 _ ((((((F.out.set_ 0 _).set_ 1 _).set_ 2 _).set_ 3 _).set_ 4 _).set_ 5 _) rfl rfl) rfl ⟨by rw[A.out,u.out,a.out],?_⟩;exact (kq9 (p:=⟨w.heap.size,5,none⟩) (kq9 (p:=⟨w.heap.size,4,none⟩) (kq9 (p:=⟨w.heap.size,3,none⟩) (kq9 (p:=⟨w.heap.size,2,none⟩) (kq9 (p:=⟨w.heap.size,1,none⟩) (kq9 (p:=⟨w.heap.size,0,none⟩) o (kqa _) _) (kqa _) _) (kqa _) _) (kqa _) _) (kqa _) _) (kqa _) _)
  obtain⟨j,k⟩:=m.out (.inr q);have A:=hid j;have u:=hid k;have z:(R != 0)=false:=by rw[kqr];exact g
  have H:((V:Int) != (x:Int))=true:=by rw[kqv];omega
  clear g q j k;go_wp2_with fail;refine kqq (v:=.tuple #[.agg #[.int .i64 0,.int .i64 0,.int .i64 0,.int .i64 0,.bool false,.int .u64 0],.int .i64 50]) (aZ results172 _ ((((((F.out.set_ 0 _).set_ 1 _).set_ 2 _).set_ 3 _).set_ 4 _).set_ 5 _) rfl rfl) rfl ⟨by rw[A.out,u.out];rfl,?_⟩;exact (kq9 (p:=⟨w.heap.size,5,none⟩) (kq9 (p:=⟨w.heap.size,4,none⟩) (kq9 (p:=⟨w.heap.size,3,none⟩) (kq9 (p:=⟨w.heap.size,2,none⟩) (kq9 (p:=⟨w.heap.size,1,none⟩) (kq9 (p:=⟨w.heap.size,0,none⟩) o (kqa _) _) (kqa _) _) (kqa _) _) (kqa _) _) (kqa _) _) (kqa _) _)
 obtain⟨j,k⟩:=m.out (.inl g);have A:=hid j;have u:=hid k;have z:(R != 0)=true:=by rw[kqv];exact g
 clear g j k;go_wp2_with fail;refine kqq (v:=.tuple #[.agg #[.int .i64 0,.int .i64 0,.int .i64 0,.int .i64 0,.bool false,.int .u64 0],.int .i64 50]) (aZ results172 _ ((((((F.out.set_ 0 _).set_ 1 _).set_ 2 _).set_ 3 _).set_ 4 _).set_ 5 _) rfl rfl) rfl ⟨by rw[A.out,u.out];rfl,?_⟩;exact (kq9 (p:=⟨w.heap.size,5,none⟩) (kq9 (p:=⟨w.heap.size,4,none⟩) (kq9 (p:=⟨w.heap.size,3,none⟩) (kq9 (p:=⟨w.heap.size,2,none⟩) (kq9 (p:=⟨w.heap.size,1,none⟩) (kq9 (p:=⟨w.heap.size,0,none⟩) o (kqa _) _) (kqa _) _) (kqa _) _) (kqa _) _) (kqa _) _) (kqa _) _)
def stB (ws:List Nat) (a:Nat):Bk:=if stands ws a=true then bkAt ws a else mW
def u9 (ws:List Nat) (a:Nat):Int:=if stands ws a=true then 0 else 50
theorem xM{a:Nat}(h:stands ws a=true):stB ws a=bkAt ws a/\u9 ws a=0:=by simp[stB,u9,h]
theorem AQ{a:Nat}(h:stands ws a=false):stB ws a=mW/\u9 ws a=50:=by simp[stB,u9,h]
theorem cF(h:i<ws.length):wd ws i=ws[i]:=by simp[wd,h]
theorem fT(ho:∀x∈ws,x<18446744073709551616)(i:Nat):wd ws i<18446744073709551616:=by
 by_cases h:i<ws.length
 .rw[cF h];exact ho _ (kqn h)
 simp[wd,h]
theorem mT{x0 x1 x2 x3 x4 x5:Value}(h:Bx w g t #[x0,x1,x2,x3,x4,x5])(u0 u1 u2 u3 u4 u5:Value):
 Bx ((((((w.setCell ⟨g,0,none⟩ u0).setCell ⟨g,1,none⟩ u1).setCell ⟨g,2,none⟩ u2).setCell ⟨g,3,none⟩ u3).setCell ⟨g,4,none⟩ u4).setCell ⟨g,5,none⟩ u5) g t #[u0,u1,u2,u3,u4,u5]:=
 (((((h.set_ 0 u0).set_ 1 u1).set_ 2 u2).set_ 3 u3).set_ 4 u4).set_ 5 u5
theorem fQ(h:Below B w0 w)(hg:B<=g)(u0 u1 u2 u3 u4 u5:Value):
 Below B w0 ((((((w.setCell ⟨g,0,none⟩ u0).setCell ⟨g,1,none⟩ u1).setCell ⟨g,2,none⟩ u2).setCell ⟨g,3,none⟩ u3).setCell ⟨g,4,none⟩ u4).setCell ⟨g,5,none⟩ u5):=
 (((((h.setCell (p:=⟨g,0,none⟩) hg u0).setCell (p:=⟨g,1,none⟩) hg u1).setCell (p:=⟨g,2,none⟩) hg u2).setCell (p:=⟨g,3,none⟩) hg u3).setCell (p:=⟨g,4,none⟩) hg u4).setCell (p:=⟨g,5,none⟩) hg u5
theorem nw(A:Option Addr)(ws:List Nat)(c n a:Nat)(w:World)(hn:ws.length=n)(hm:n<=1000000)(ha:a+1<n)(hr:RdW w w.heap.size A ws)(ho:∀x∈ws,x<18446744073709551616):
 Calls prog 112 #[.slice A n c,.int .i64 (a:Int)] w λe w'=>e=.returned (.tuple #[(stB ws a).val,.int .i64 (u9 ws a)])/\Below w.heap.size w w':=by
 subst hn;have HR:=hid hr;have s:=fT ho a;have g:=hid (λW=>nW (wd ws a) W s);obtain⟨b,r,rfl,hb,Z⟩:=RdW.at_ hr (show a<ws.length by omega);obtain⟨b',off',e',-,V⟩:=RdW.at_ hr ha;cases e';rw[<-cF] at Z V;have ik0:(0:Int)<=(a:Int):=by omega
 have ik1:(a:Int)<(ws.length:Int):=by omega
 have ik2:(a:Int)+1<(ws.length:Int):=by omega
 have ik3:(0:Int)<=(a:Int)+1:=by omega
 have htn:((a:Int)+1).toNat=a+1:=by omega
 have k:(ap (wd ws a)).val=.agg #[.int .i64 0,.int .i64 ((szAt ws a:Nat):Int),.int .i64 ((wd ws a%256:Nat):Int),.int .i64 ((wd ws a/512%128:Nat):Int),.bool (wd ws a/256%2==1),.int .u64 0]:=rfl;have o:(bkAt ws a).val=.agg #[.int .i64 (a:Int),.int .i64 ((szAt ws a:Nat):Int),.int .i64 ((wd ws a%256:Nat):Int),.int .i64 ((wd ws a/512%128:Nat):Int),.bool (wd ws a/256%2==1),.int .u64 ((wd ws (a+1):Nat):Int)]:=rfl;have R:szAt ws a<65536:=kz0 _ (by omega);have j:Hid (stands ws a=(aG (wd ws a)&&decide ((szAt ws a:Int)<=(ws.length:Int)-a))):=hid rfl;have C:Hid (stands ws a=false->stB ws a=mW/\u9 ws a=50):=hid AQ;have Y:Hid (stands ws a=true->stB ws a=bkAt ws a/\u9 ws a=0):=hid xM;cases t:aG (wd ws a)
 .obtain ⟨l,m⟩:=C.out (by rw[j.out,t];rfl);obtain⟨E,F⟩:=mP t;rw[E,F] at g;have L:=hid l;have B:=hid m;clear hr k o t l m E F s;unfold Bk.val mW at g;dsimp only at g;obtain⟨x,s⟩:=xq (wd ws a);rw[s] at Z g;clear s;go_enter func112,ntmps112;go_wp2_with fail;refine (g.out _).mono ?_;rintro e Q ⟨rfl,d⟩;rw[kqm] at d;have i:=Bx.of_new d;have h:=ay d;have H:=hid i;obtain⟨c0,c1,c2,c3,c4,c5,f,cz⟩:=i.c6;have J:=f 0;have D:=f 1;have z:=f 2;have I:=f 3;have G:=f 4;have N:=f 5;clear i f d;go_wp2_with fail;refine kqq (v:=.tuple #[.agg #[.int .i64 0,.int .i64 0,.int .i64 0,.int .i64 0,.bool false,.int .u64 0],.int .i64 50]) (aZ results112 _ ((mT H.out _ _ _ _ _ _).alloc _) rfl rfl) rfl ⟨by rw[L.out,B.out];rfl,(fQ h (kqa _) _ _ _ _ _ _).alloc (by simp;have:=h.size;omega) _⟩
 obtain⟨E,F⟩:=mM t;rw[E,F,k] at g;have q:=hid o;obtain⟨S,hS⟩:=xq (szAt ws a);obtain⟨K,hK⟩:=xq (wd ws a%256);obtain⟨T,hT⟩:=xq (wd ws a/512%128);obtain⟨M,hM⟩:=xq ((wd ws a/256%2==1));rw[hS,hK,hT,hM] at g q;rw[hS] at R j;rw[t,kzq] at j;obtain⟨x,P⟩:=xq (wd ws a);obtain⟨y,O⟩:=xq (wd ws (a+1));rw[P] at Z g;rw[O] at V q;clear hr k o t E F s hS hK hT hM P O;by_cases u:(ws.length:Int)-a<S
 .obtain ⟨l,m⟩:=C.out (by rw[j.out,kqh];omega);have L:=hid l;have B:=hid m;clear l m;go_enter func112,ntmps112;go_wp2_with fail;refine (g.out _).mono ?_;rintro e Q ⟨rfl,d⟩;rw[kqm] at d;have i:=Bx.of_new d;have h:=ay d;have H:=hid i;obtain⟨c0,c1,c2,c3,c4,c5,f,cz⟩:=i.c6;have J:=f 0;have D:=f 1;have z:=f 2;have I:=f 3;have G:=f 4;have N:=f 5;clear i f d;go_wp2_with fail;refine kqq (v:=.tuple #[.agg #[.int .i64 0,.int .i64 0,.int .i64 0,.int .i64 0,.bool false,.int .u64 0],.int .i64 50]) (aZ results112 _ ((mT H.out _ _ _ _ _ _).alloc _) rfl rfl) rfl ⟨by rw[L.out,B.out];rfl,(fQ h (kqa _) _ _ _ _ _ _).alloc (by simp;have:=h.size;omega) _⟩
 obtain⟨l,m⟩:=Y.out (by rw[j.out,kqo];omega);have L:=hid l;have B:=hid m;have hle:(S:Int)<=(ws.length:Int)-a:=by omega
 clear l m u;go_enter func112,ntmps112;go_wp2_with fail;refine (g.out _).mono ?_;rintro e Q ⟨rfl,d⟩;rw[kqm] at d;have i:=Bx.of_new d;have h:=ay d;have H:=hid i;obtain⟨c0,c1,c2,c3,c4,c5,f,cz⟩:=i.c6;have J:=f 0;have D:=f 1;have z:=f 2;have I:=f 3;have G:=f 4;have N:=f 5;clear i f d;have hbw:b<Q.heap.size:=by have:=h.size;omega
 have U:=(h.cell (p:=⟨b,r+(a+1),none⟩) hb).trans V;have hwr:IntKind.i64.wrap ((a:Int)+1)=(a:Int)+1:=kqt _ (by omega);go_wp2_with fail;have hne:=World.new_ne Q ⟨b,r+(a+1),none⟩ U
 go_region_held3 (λX:World=>X.cell? ⟨b,r+(a+1),none⟩=some (.int .u64 (y:Int))) (go_keep) (fail)
 all_goals
  go_wp2_with fail;refine kqq (v:=.tuple #[.agg #[.int .i64 (a:Int),.int .i64 (S:Int),.int .i64 (K:Int),.int .i64 (T:Int),.bool M,.int .u64 (y:Int)],.int .i64 0]) (aZ results112 _ (show Bx (World.drew _) _ _ _ from (mT H.out _ _ _ _ _ _).alloc _) rfl rfl) rfl ⟨by rw[L.out,B.out,q.out],((fQ h (kqa _) _ _ _ _ _ _).alloc (by simp;have:=h.size;omega) _).drew⟩
def fm (n:Nat) (a:Int):Bool:=decide (a<128)||(decide ((n:Int)<a)||a%2 != 0)
def cj (ws:List Nat) (a:Int):Int:=if ak (ws.length:Int)=true then (if fm ws.length a=true then 2 else (match blocks ws a.toNat with | none=>50 | some _=>0)) else 8
def aT (ws:List Nat) (a:Int):List Bk:=if cj ws a=0 then (blocks ws a.toNat).getD [] else []
def rx (ws:List Nat) (a:Int) (e:Ending) (w':World):Prop:=∃A c,e=.returned (.tuple #[.slice A (aT ws a).length c,.int .i64 (cj ws a)])/\RdB w' w'.heap.size A (aT ws a)/\(aT ws a).length<=c
theorem fP(h:ak (ws.length:Int)=false):cj ws a=8:=by simp[cj,h]
theorem jP(h:ak (ws.length:Int)=true)(h2:fm ws.length a=true):cj ws a=2:=by simp[cj,h,h2]
theorem eY(h:ak (ws.length:Int)=true)(h2:fm ws.length a=false)(h3:blocks ws a.toNat=none):cj ws a=50:=by simp[cj,h,h2,h3]
theorem cV(h:ak (ws.length:Int)=true)(h2:fm ws.length a=false)(h3:blocks ws a.toNat=some l):cj ws a=0/\aT ws a=l:=by
 have:cj ws a=0:=by simp[cj,h,h2,h3]
 exact⟨this,by simp[aT,this,h3]⟩
theorem kn(h:fm n a=false):128<=a/\a<=(n:Int)/\a%2=0:=by simp only[fm,kzs,kqh,kqr] at h;omega
theorem nV(h:¬ (128<=a/\a<=(n:Int)/\a%2=0)):fm n a=true:=by
 cases b:fm n a with
 | true=>rfl
 | false=>exact absurd (kn b) h
theorem lG(hr:cj ws a=r)(h0:r≠0):rx ws a (.returned (.tuple #[.slice none 0 0,.int .i64 r])) w':=by
 subst hr;have:aT ws a=[]:=by simp[aT,h0]
 exact⟨none,0,by rw[this];rfl,by rw[this];exact Rd.nil_,by rw[this];simp⟩
theorem CS(h0:cj ws a=0)(hl:aT ws a=l)(h:w'.ownsRow H 55 6 v l.length (l.flatMap Bk.cells)):rx ws a (.returned (.tuple #[v,.int .i64 0])) w':=by
 have e:∃A c,v=.slice A l.length c/\l.length<=c:=by
  rcases h.2 with⟨rfl,d⟩|⟨g,cap,cur,rfl,_,_,b,_⟩
  .exact ⟨none,0,by rw[d],by omega⟩
  exact⟨_,_,rfl,b⟩
 obtain⟨A,c,rfl,b⟩:=e;exact⟨A,c,by rw[hl,h0],by rw[hl];exact Rd.of_own h,by rw[hl];exact b⟩
theorem lx:(prog.info? 55).map (λi=>(i.zero,i.size,i.bytes))=some (some (.agg #[.int .i64 0,.int .i64 0,.int .i64 0,.int .i64 0,.bool false,.int .u64 0]),6,48):=by kernel_rfl
theorem rD{sz:Nat}(hown:w.ownsRow H e sz v n xs):some w.heap.size≠v.ownBlock:=λh=>by have:=(hown.lt _ h.symm).2;omega
theorem mn(w:World)(cs:List Value)(t:TypeId)(h:w.heap.size=H):∀j u,cs[j]? = some u->(w.alloc (.cells cs.toArray t)).cell? ((⟨H,0,none⟩:Addr).add j)=some u:=by subst h;exact cI w cs t
theorem mV(A:Option Addr)(ws:List Nat)(c n:Nat)(a:Int)(w:World)(hn:ws.length=n)(hm:n<=9223372036854775807)(hr:RdW w w.heap.size A ws)(ho:∀x∈ws,x<18446744073709551616):
 Calls prog 65 #[.slice A n c,.int .i64 a] w λe w'=>rx ws a e w'/\Below w.heap.size w w':=by
 subst hn;have HR:=hid hr;have HO:=hid ho;clear hr ho;cases C:ak (ws.length:Int)
 .have T:=hid (bL C);have N:=hid (fP (a:=a) C);clear C;go_enter func65,ntmps65;go_wp2_with fail;refine (aB A ws.length c w hm).mono ?_;rintro e t ⟨rfl,rfl⟩;rw[T.out];go_wp2;go_ret2;exact⟨lG N.out (by omega),kqk _ _⟩
 have T:=hid (aV C);have HS:=hid C;have hb:=kR (aV C);obtain⟨h,hb2,Q⟩:=hb;have Lb:=hid Q;clear C hm Q;by_cases d:128<=a/\a<=(ws.length:Int)/\a%2=0
 .obtain ⟨a1,a2,a3⟩:=d;have F:Hid (fm ws.length a=false):=hid (by
   simp only[fm,kzs,kqh,kqr];omega)
  have La:(a%2 != 0)=false:=by rw[kqr];exact a3
  have d1:decide (a<128)=false:=by rw[kqh];omega
  have d2:decide ((ws.length:Int)<a)=false:=by rw[kqh];omega
  have Ky:=hid a3;obtain⟨P,rfl⟩:=kq1 (show 0<=a by omega);have d2n:decide (ws.length<P)=false:=by rw[kqh];omega
  clear a3;obtain⟨i2,S,I,r,O⟩:=kzr lx;have HJ:=hid S;have Kx:=hid I;have Kz:=hid r;have Eq:=hid O;clear S I r O;go_enter func65,ntmps65;go_wp2_with fail;refine (aB A ws.length c w (by omega)).mono ?_;rintro e t ⟨rfl,rfl⟩;rw[T.out];go_wp2_with fail;go_loopw [1,7] (λp v wr=>∃(i:Nat) (b:List Bk),p=.int .i64 i/\P<=i/\i<=ws.length/\i%2=0/\blocks ws P=(blocks ws i).map (b ++ ·)/\b.length<=i/\wr.ownsRow w.heap.size 55 6 v b.length (b.flatMap Bk.cells)/\Below w.heap.size w wr) (λp _ _=>ws.length-(intOf p).toNat)
  case atStart=>exact⟨P,[],rfl,kqa _,by omega,by have:=Ky.out;omega,by simp,by simp,kq6 _ _ _ _,kqk _ _⟩
  obtain⟨i,b,rfl,q1,q2,q3,q4,q5,j,E⟩:=hrel;have X:=E.size;have Lc:=hid q3;have D:=hid q4;clear q4;by_cases L:i<ws.length
  .have s:i+1<ws.length:=by have:=Lb.out;omega
   clear q3;have ik1:(i:Int)<(ws.length:Int):=by omega
   cases g:stands ws i
   .have HN:=hid (eY HS.out F.out (by rw[kqj,D.out,dC L g];rfl));obtain⟨J,K⟩:=AQ g;have k:=hid (nw A ws c ws.length i wr rfl (by omega) s (HR.out.up E X) HO.out);rw[J,K] at k;unfold mW Bk.val at k;dsimp only at k;clear g J K j;go_wp2_with fail;refine k.out.mono ?_;rintro e t ⟨rfl,q⟩;have h:=E.trans (q.mono X);go_wp2;go_ret2;exact⟨lG HN.out (by omega),h.alloc h.size _⟩
   have M:=aJ g;obtain⟨J,K⟩:=xM g;have k:=hid (nw A ws c ws.length i wr rfl (by omega) s (HR.out.up E X) HO.out);rw[J,K] at k;have y:=hid (show blocks ws P=(blocks ws (i+szAt ws i)).map ((b++[bkAt ws i]) ++ ·) by
    rw[D.out,aL L g];cases blocks ws (i+szAt ws i)<;>simp)
   have G:=hid (cB Bk.cells b (bkAt ws i));have m:=bo ws i;obtain⟨x,hx⟩:=xq (bkAt ws i);obtain⟨z,H⟩:=xq (szAt ws i);rw[hx] at k y G m;rw[H] at y M m;have HX:=hid hx;obtain⟨U,xs,Y,V,W,R⟩:=x;dsimp only at m;subst m;unfold Bk.val at k;dsimp only at k;obtain⟨z1,z2,z3⟩:=M;have Kw:=hid z2;clear g J K hx H z2;go_wp2_with fail;refine k.out.mono ?_;rintro e t ⟨rfl,q⟩;have h:=E.trans (q.mono X);have f:=aa j q (kqa _);have r:=h.size;go_wp2_with (at_builtin;refine kzh _ rfl _ _ 48 rfl w.heap.size 55 i2 _ 6 48 underlying48 HJ.out Kx.out Kz.out Eq.out rfl (by decide) _ _ _ rfl ((f.alloc _).alloc _) ⟨_,0,none⟩ 1 1 [.int .i64 U,.int .i64 (z:Int),.int .i64 Y,.int .i64 V,.bool W,.int .u64 (R:Int)] rfl rfl (mn _ _ _ (kqm _ _)) (by simp[Value.oneCell']) (by unfold maxLen;omega) (by omega) (by simp;omega) ?_;intro v1 w2 u B _;have o:Bx w2 t.heap.size 55 #[.int .i64 U,.int .i64 (z:Int),.int .i64 Y,.int .i64 V,.bool W,.int .u64 (R:Int)]:=((Bx.new t 55 _).alloc _).grown B (rD f);have Z:=aF (h.alloc r (.cells #[.int .i64 U,.int .i64 (z:Int),.int .i64 Y,.int .i64 V,.bool W,.int .u64 (R:Int)] 55)) (by simp;omega) (f.alloc _) B;have hc1:w2.cell? ⟨t.heap.size,1,none⟩=some (.int .i64 (z:Int)):=o.cell 1;have hf1:=o.frozen 1;have hl1:=o.lt;clear B o);go_roundw
   case rel=>exact⟨i+z,b++[⟨U,(z:Int),Y,V,W,R⟩],by rw[kjn],by omega,by omega,by have:=Lc.out;have:=Kw.out;omega,y.out,by simp;omega,by rw[G.out,kqs];exact u,Z⟩
   case measure=>simp[intOf];omega
  have S:i=ws.length:=by omega
  have HD:=hid (cV HS.out F.out (l:=b) (by rw[kqj,D.out,aD (by omega)];simp));clear S q3;go_wp2;go_ret2;exact⟨CS HD.out.1 HD.out.2 j,E⟩
 have N:=hid (jP HS.out (nV d));go_enter func65,ntmps65;go_wp2_with fail;refine (aB A ws.length c w (by omega)).mono ?_;rintro e t ⟨rfl,rfl⟩;rw[T.out];by_cases h1:a<128
 .clear d;go_wp2;go_ret2;exact⟨lG N.out (by omega),kqk _ _⟩
 by_cases h2:(ws.length:Int)<a
 .clear d;go_wp2;go_ret2;exact⟨lG N.out (by omega),kqk _ _⟩
 have La:(a%2 != 0)=true:=by rw[kqv];omega
 have d1:decide (a<128)=false:=by rw[kqh];omega
 have d2:decide ((ws.length:Int)<a)=false:=by rw[kqh];omega
 have a0:0<=a:=by omega
 clear d;go_wp2;go_ret2;exact⟨lG N.out (by omega),kqk _ _⟩
def Hk:List Bk->Option Bk
 | []=>none
 | b::l=>if b.mark=true then some b else Hk l
def fj (l:List Bk) (k:Nat):Prop:=∀j,j<k->(gk l j).mark=false
theorem nB(l:List Bk):fj l 0:=λj h=>absurd h (by omega)
theorem ol(h:fj l k)(h2:(gk l k).mark=false):fj l (k+1):=λj hj=>by
 rcases kq7 j k with a|a
 .exact h j a
 .have:j=k:=by omega
  subst this;exact h2
theorem DI:∀ {l:List Bk},fj l l.length->Hk l=none:=by
 intro l
 induction l with
 | nil=>intro _;rfl
 | cons b l ih =>intro h;have c:b.mark=false:=h 0 (by simp);simp only[Hk,c,kzm,if_false];exact ih λj a=>by have:=h (j+1) (by simpa using a);rwa [jm] at this
theorem Kk:∀ {l:List Bk} {k:Nat},k<l.length->fj l k->(gk l k).mark=true->Hk l=some (gk l k):=by
 intro l
 induction l with
 | nil=>intro k h;simp at h
 | cons b l ih =>
  intro k c h a;cases k with
  | zero =>rw[oo] at a |-;simp[Hk,a]
  | succ k =>have d:b.mark=false:=h 0 (by omega);simp only[Hk,d,kzm,if_false];rw[jm] at a |-;exact ih (by simpa using c) (λj hj=>by have:=h (j+1) (by omega);rwa [jm] at this) a
def bt (ws:List Nat) (a:Int):Int:=if cj ws a=0 then (match Hk (aT ws a) with | none=>6 | some _=>0) else cj ws a
def iO (ws:List Nat) (a:Int):Bk:=if cj ws a=0 then (Hk (aT ws a)).getD mW else mW
theorem wH(h:cj ws a=r)(h0:r≠0):iO ws a=mW/\bt ws a=r:=by subst h;simp[iO,bt,h0]
theorem BU(h:cj ws a=0)(hl:aT ws a=l)(hn:fj l l.length):iO ws a=mW/\bt ws a=6:=by subst hl;simp[iO,bt,h,DI hn]
theorem uT(h:cj ws a=0)(hl:aT ws a=l)(hk:k<l.length)(hn:fj l k)(hm:(gk l k).mark=true):iO ws a=gk l k/\bt ws a=0:=by subst hl;simp[iO,bt,h,Kk hk hn hm]
theorem Kp(h:cj ws a=0)(hk:k<(aT ws a).length):(gk (aT ws a) k).kind==1 || !(gk (aT ws a) k).mark:=by
 unfold aT at hk |-;rw[if_pos h] at hk |-;unfold cj at h;split at h
 .split at h
  .simp at h
  rename_i h2;have h3:=kn (by simpa using h2);cases b:blocks ws a.toNat with
  | none=>rw[b] at h;simp at h
  | some l =>
   rw[b] at hk;simp only[kq5] at hk |-;obtain⟨i,e,-,-,-,f,-⟩:=cC _ _ b (by omega) k hk;have d:=(bH _).1 (fG f);rw[bU l k hk,e];show ((ap (wd ws i)).kind==1 || !(ap (wd ws i)).mark)=true;rcases d.2 with c|c
   .simp[c.1]
   simp[c.2.2.1]
 simp at h
theorem rt(a:Int):(a.tmod 2 != 0)=(a%2 != 0):=by
 have b:a.tmod 2=0↔a%2=0:=by
  constructor
  .intro h;have:=Int.dvd_of_tmod_eq_zero h;omega
  intro h;exact Int.tmod_eq_zero_of_dvd (Int.dvd_of_emod_eq_zero h)
 rw[kzl,kqv,kqv,ne_eq,ne_eq,b]
theorem EG(hbad:¬ (128<=a/\a<=(n:Int)/\a%2=0)):(a%2 != 0)=true/\(a.tmod 2 != 0)=true\/((a%2 != 0)=false/\(a.tmod 2 != 0)=false)/\a<128\/(a%2 != 0)=false/\128<=a/\(n:Int)<a:=by
 rw[rt];by_cases h:a%2=0
 .have:(a%2 != 0)=false:=by rw[kqr];exact h
  rw[this];by_cases b:a<128
  .exact .inr (.inl ⟨⟨rfl,rfl⟩,b⟩)
  exact .inr (.inr ⟨rfl,by omega,by omega⟩)
 have:(a%2 != 0)=true:=by rw[kqv];exact h
 rw[this];exact .inl ⟨rfl,rfl⟩
theorem iR(ws:List Nat)(a:Int):(aT ws a).length<=4611686018427387904:=by
 unfold aT;split
 .rename_i h;unfold cj at h;split at h
  .rename_i h1;have hb:=(ab _).1 h1;split at h
   .simp at h
   rename_i h2;have h3:=kn (by simpa using h2);cases b:blocks ws a.toNat with
   | none=>simp
   | some l =>have:=(bK (by omega) _ _ b (by omega) (by omega) (by omega)).1;simp only[kq5];omega
  simp at h
 simp
end Go.Proofs.YtpcajamacpbjcaaGreat
