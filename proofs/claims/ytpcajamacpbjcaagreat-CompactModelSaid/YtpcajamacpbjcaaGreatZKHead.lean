/- Texts laid together: Arr Agg App Cut Img SumW FwbQ HdrW HdrX HdrY Walk From NxtP. -/
import Derived.Test.YtpcajamacpbjcaaGreatZKPlain
import Derived.Deep.MidRow
import Derived.Laws.Rows
import Derived.Laws.AppendOwnNone
import Derived.Laws.BitsAllLaws
import Derived.Laws.Shifts
import Derived.PlainAid
import Derived.Deep.RegionHeld3
import Derived.Deep.DrawnRows
set_option maxHeartbeats 16000000
set_option maxRecDepth 100000
set_option linter.all false
namespace Go.Proofs.YtpcajamacpbjcaaGreat
open Lib (hid)
open Go.RowKit
variable {ops:Array Oper}{b:Bk}{xm:Bool}{a r xa xk xt:Int}{l:List Bk}{ws:List Nat}{rest:List Oper}{xs:List Value}{B H g g' i k m n x xn:Nat}{o op:Oper}{dst:Option Tmp}{P:Program}{pos:String}{α:Type}{e t type:TypeId}{v:Value}{w w' w0:World}
open Go.Proofs.Tryz
theorem fS{a:Array Value}(h:Bx w g t a){cs:Array Value}(hs:cs.size=a.size):Bx (w.setCells g 0 cs.toList) g t cs:=by
 have n:∀(c:List Value) (o:Nat) (w:World) (a:Array Value),Bx w g t a->o+c.length=a.size ->
  ∃b,Bx (w.setCells g o c) g t b/\b.size=a.size/\(∀j,j<o->b[j]? = a[j]?)/\∀j,j<c.length->b[o+j]? = c[j]?:=by
  intro c
  induction c with
  | nil=>intro o w a m _;exact⟨a,m,rfl,λ_ _=>rfl,λj d=>by simp at d⟩
  | cons v c ih =>
   intro o w a m r;rw[kzc] at r;obtain⟨b,f,l,p,k⟩:=ih (o+1) _ _ (m.set_ o v) (by rw[Array.size_setIfInBounds];omega);rw[Array.size_setIfInBounds] at l;refine⟨b,f,l,λj d=>?_,λj d=>?_⟩
   .rw[p j (by omega),kjp,if_neg (by omega)]
   cases j with
   | zero=>rw[kxd,p o (by omega),kjp,if_pos rfl,if_pos (by omega)];rfl
   | succ j=>rw[show o+(j+1)=o+1+j by omega,k j (by simpa using d)];simp
 obtain⟨b,f,l,_,k⟩:=n cs.toList 0 w a h (by simpa using hs);have e:b=cs:=by
  apply kkw;intro i;by_cases q:i<cs.size
  .have:=k i (by simpa using q);rw[kxm] at this;rw[this];simp
  rw[kz8 (by omega),kz8 (by omega)]
 rwa [e] at f
theorem cX(hg:B<=g)(vs:List Value):∀ {w a:World} {o:Nat},Below B w a->Below B w (a.setCells g o vs):=by
 induction vs with
 | nil=>intro w a o h;exact h
 | cons v vs ih=>intro w a o h;exact ih (h.setCell (p:=⟨g,o,none⟩) hg v)
theorem lZ{cs:Array Value}(h:Bx w g t cs):w.there g 0 cs.size:=λj a=>by rw[kxm];exact⟨by rw[h.cell j];simp[a],h.frozen j⟩
theorem pu{i:TypeInfo}(ht:P.underlying t=some (.array n e))(he:P.info? e=some i)(hs:i.size=1)(hag:∀w,(isAgg e).run P w=.ok false w){cs:Array Value}(hk:k<n)(hv:cs[k]? = some v)(w:World):
 (Instr.index t (.agg cs) (.int .i64 (k:Int))).run P w=.ok v w:=by
 have a:(0:Int)<=(k:Int)/\(k:Int)<(n:Int):=by omega
 simp[Instr.index,asIntOf,run_underlying ht,a,sizeOf,typeInfo,he,hs,part,Sem.run_bind,hag,hv,Result.andThen];omega
theorem nJ(hne:g'≠g)(vs:List Value):∀(w:World) (o:Nat),(w.setCells g o vs).heap[g']? = w.heap[g']?:=by
 induction vs with
 | nil=>intro w o;rfl
 | cons v vs ih=>intro w o;simp only[World.setCells];rw[ih];exact kka w ⟨g,o,none⟩ v g' hne
theorem hU(vs:List Value):∀(w:World) (o:Nat),(w.setCells g o vs).heap.size=w.heap.size:=by
 induction vs with
 | nil=>intro w o;rfl
 | cons v vs ih=>intro w o;simp only[World.setCells];rw[ih,kxw]
def rF (w w':World) (g:Nat):Prop:=w'.heap.size=w.heap.size/\(∀g',g'≠g->w'.heap[g']? = w.heap[g']?)/\∀B,B<=g->Below B w w'
theorem rF.bx{cs:Array Value}(h:rF w w' g)(hb:Bx w g' t cs)(hne:g'≠g):Bx w' g' t cs:=(h.2.1 g' hne).trans hb
theorem rF.below(h:rF w w' g)(hb:Below B w0 w)(hB:B<=g):Below B w0 w':=hb.trans (h.2.2 B hB)
theorem am{a:Act}{Q:Exit->Act->World->Prop}(hgd:op.guard=none)(ty:TypeId)(x y:Operand)(ho:op.op=.store ty x y)(g:Nat)(t:TypeId)(cs0 cs:Array Value)(hx:a.eval x=.pointer (some ⟨g,0,none⟩))(hy:a.eval y=.agg cs)(hb:Bx w g t cs0)(hs:cs.size=cs0.size)(hi:(P.info? ty).map (·.size)=some cs.size)(h1:cs.all (·.oneCell')=true)(h:∀W',Bx W' g t cs->rF w W' g->wpList P ops Q rest (a.put op.dst undef) W'):wpList P ops Q (op::rest) a w:=by
 have c:w.there g 0 cs.size:=by rw[hs];exact lZ hb
 refine kkq hgd ty x y ho g 0 cs hx hy c hi h1 (h _ (fS hb hs) ⟨hU _ _ _,λg' b=>nJ b _ _ _,λB d=>cX d _ (kql _ _)⟩)
theorem bt{a:Act}{Q:Exit->Act->World->Prop}{after:Array Edge}{guard:Option (Nat × Bool)}(ty:TypeId)(x y:Operand)(h:wpList P ops Q ({ dst:=dst,op:=.store ty x y,type:=type,pos:=pos,after:=after,guard:=guard }::rest) a w):wpList P ops Q ({ dst:=dst,op:=.store ty x y,type:=type,pos:=pos,after:=after,guard:=guard }::rest) a w:=h
theorem gX{a:Act}{Q:Exit->Act->World->Prop}{after:Array Edge}{guard:Option (Nat × Bool)}(ty:TypeId)(x:Operand)(h:wpList P ops Q ({ dst:=dst,op:=.load ty x,type:=type,pos:=pos,after:=after,guard:=guard }::rest) a w):wpList P ops Q ({ dst:=dst,op:=.load ty x,type:=type,pos:=pos,after:=after,guard:=guard }::rest) a w:=h
theorem qG{a:Act}{Q:Exit->Act->World->Prop}(hgd:op.guard=none)(v:Value)(hv:(execOp a.eval op).run P w=.ok (.value v) w)(h:wpList P ops Q rest (a.put op.dst v) w):wpList P ops Q (op::rest) a w:=
 wpList_plain hgd λ_ b=>by
  unfold Oper.wp
  rw[hv]
  exact b _ _ h
theorem mC(x0 x1 x2 x3:Int)(m:Bool)(n:Int):(#[.int .i64 x0,.int .i64 x1,.int .i64 x2,.int .i64 x3,.bool m,.int .u64 n]:Array Value).all (·.oneCell')=true:=by simp[Value.oneCell']
theorem mh:(prog.info? 55).map (·.size)=some 6:=by kernel_rfl
theorem xU(w:World){a:Act}{Q:Exit->Act->World->Prop}(hgd:o.guard=none)(s x:Operand)(t:TypeId)(ho:o.op=.call { callee:=.builtin .append,args:=#[s,x],argTypes:=#[t,t] })(base:Nat)(e:TypeId)(i:TypeInfo)(z:Value)(size bytes:Nat)(ht:P.underlying t=some (.slice e))(hi:P.info? e=some i)(hz:i.zero=some z)(hsize:i.size=size)(hby:i.bytes=bytes)(hzs:z.cells.size=size)(hsz:0<size)(v:Value)(n:Nat)(xs:List Value)(hs:a.eval s=v)(hown:w.ownsRow base e size v n xs)(B:Nat)(A:Option Addr)(m c:Nat)(news:List Value)(hx:a.eval x=.slice A m c)(hc0:A=none->c=0)(hl:news.length=m*size)(hr:Rd w B A news)(g:∀u∈news,u.oneCell'=true)(h63:n+m<=maxLen)(hbytes:(n+m)*bytes<=140737488355328)(hbase:base<=w.heap.size)(h:∀d w',w'.ownsRow base e size d (n+m) (xs++news)->w.grownBy w' v.ownBlock->wpList P ops Q rest (a.put o.dst d) w'):wpList P ops Q (o::rest) a w:=by
 cases A with
 | none =>
  have D:news=[]:=by
   cases news with
   | nil=>rfl
   | cons u us =>obtain⟨b,k,g,_⟩:=hr (by simp);cases g
  subst D;have q:m=0:=by
   rcases kx6 m with l|l
   .exact l
   have:=Nat.mul_pos l hsz;simp at hl;omega
  subst q;rw[hc0 rfl] at hx;exact wpList_append_own_none hgd s x t ho base e i size ht hi v n xs hs hown hx (h v w (by simpa using hown) (World.grownBy.refl w _))
 | some ad =>
  refine kzn w hgd s x t ho base e i z size bytes ht hi hz hsize hby hzs hsz v n xs hs hown ad m c news hx hl ?_ g h63 hbytes hbase (λd w' r y _=>h d w' r y);intro j u p;have f:news≠[]:=by intro e;subst e;simp at p
  obtain⟨b,k,e,_,E⟩:=hr f;cases e;obtain⟨F,C⟩:=kq7.1 p;have:=E j F;rw[C] at this;rw[<-this];congr 1;unfold Addr.add;split
  .simp_all
  rfl
theorem dE(w:World)(base:Nat)(e:TypeId)(size:Nat)(hb:base<=w.heap.size):(w.alloc (.cells #[] e)).ownsRow base e size (.slice (some ⟨w.heap.size,0,none⟩) 0 0) 0 []:=by refine⟨by simp,.inr ⟨w.heap.size,0,#[],rfl,hb,heap_alloc_new w _,kqg _,by simp[maxLen],by simp,by simp⟩⟩
theorem cG{f:α->List Value}(h:∀x,∀u∈f x,u.oneCell'=true)(l:List α):∀u∈l.flatMap f,u.oneCell'=true:=by intro u a;obtain⟨x,_,b⟩:=List.mem_flatMap.1 a;exact h x u b
theorem Bk.one(b:Bk):∀u∈b.cells,u.oneCell'=true:=by intro u a;simp only[Bk.cells,kq0,kzu,or_false] at a;rcases a with rfl|rfl|rfl|rfl|rfl|rfl<;>rfl
theorem En.one(b:En):∀u∈b.cells,u.oneCell'=true:=by intro u a;simp only[En.cells,kq0,kzu,or_false] at a;rcases a with rfl|rfl<;>rfl
theorem l6(b:Nat):∀u∈ai b,u.oneCell'=true:=by intro u a;simp only[ai,kq0,kzu,or_false] at a;subst a;rfl
theorem eh(f:α->List Value)(sz:Nat)(hf:∀x,(f x).length=sz)(l:List α)(k j:Nat)(hj:j<sz)(x:α)(u:Value)(hk:∀y,l[k]? = some y->f x=(f y).set j u):
 (l.set k x).flatMap f=(l.flatMap f).set (k*sz+j) u:=by
 induction l generalizing k with
 | nil=>simp
 | cons y l ih =>
  cases k with
  | zero =>have:=hk y rfl;simp only[kqf,kzy,this,kvi,kxm];rw[List.set_append_left _ _ (by rw[hf];exact hj)]
  | succ k =>simp only[kqd,kzy];rw[ih k (λz a=>hk z (by simpa using a)),kkf _ _ (by rw[hf,kje];omega),hf];congr 2;rw[kje];omega
theorem jY(f:α->List Value)(sz:Nat)(hf:∀x,(f x).length=sz)(l:List α)(n:Nat):(l.take n).flatMap f=(l.flatMap f).take (n*sz):=by
 induction l generalizing n with
 | nil=>simp
 | cons x l ih =>
  cases n with
  | zero=>simp
  | succ n =>rw[kjg,kzy,kzy,ih,List.take_append,hf];rw[kzg (l:=f x) (by rw[hf,kje];omega)];congr 2;rw[kje];omega
theorem Bb(f:α->List Value)(sz:Nat)(hf:∀x,(f x).length=sz)(l:List α)(n:Nat):(l.drop n).flatMap f=(l.flatMap f).drop (n*sz):=by
 induction l generalizing n with
 | nil=>simp
 | cons x l ih =>
  cases n with
  | zero=>simp
  | succ n =>rw[List.drop_succ_cons,kzy,ih,List.drop_append,hf];rw[List.drop_of_length_le (l:=f x) (by rw[hf,kje];omega),kz5];congr 1;rw[kje];omega
theorem Rd.from_{off:Nat}(h:Rd w B (some ⟨g,off,none⟩) xs)(k:Nat):Rd w B (some ⟨g,off+k,none⟩) (xs.drop k):=λf=>by
 have c:k<xs.length:=by
  rcases kq9 k xs.length with a|a
  .exact a
  exact absurd (List.drop_eq_nil_of_le a) f
 obtain⟨b,o2,e,i,l⟩:=h (by intro e;subst e;simp at c);cases e;refine⟨g,off+k,rfl,i,λj m=>?_⟩;have d:k+j<xs.length:=by simp at m;omega
 rw[kj6,kjz];exact l _ d
theorem nO(w:World)(base:Nat)(t ty e:TypeId)(i:TypeInfo)(size:Nat)(ht:P.underlying t=some (.slice e))(hi:P.info? e=some i)(v:Value)(n:Nat)(xs:List Value)(hown:w.ownsRow base e size v n xs)(c:Nat):(Builtin.append_ #[t,t] ty #[v,.slice none 0 c]).run P w=.ok v w:=by
 rcases hown.2 with⟨rfl,rfl⟩|⟨g,cap,cur,rfl,_,_,a,_⟩
 .simp[Builtin.append_,run_underlying ht,sizeOf,typeInfo,hi,Builtin.lenOf,Builtin.firstCells]
 simp[Builtin.append_,run_underlying ht,sizeOf,typeInfo,hi,Builtin.lenOf,Builtin.firstCells,a,storeCells]
theorem fh(w:World){a:Act}{K:Act->World->Prop}{Q:Exit->Act->World->Prop}(s x:Operand)(t:TypeId)(ho:o.op=.call { callee:=.builtin .append,args:=#[s,x],argTypes:=#[t,t] })(base:Nat)(e:TypeId)(i:TypeInfo)(z:Value)(size bytes:Nat)(ht:P.underlying t=some (.slice e))(hi:P.info? e=some i)(hz:i.zero=some z)(hsize:i.size=size)(hby:i.bytes=bytes)(hzs:z.cells.size=size)(hsz:0<size)(v:Value)(n:Nat)(xs:List Value)(hs:a.eval s=v)(hown:w.ownsRow base e size v n xs)(B:Nat)(A:Option Addr)(m c:Nat)(news:List Value)(hx:a.eval x=.slice A m c)(hl:news.length=m*size)(hr:Rd w B A news)(k:∀u∈news,u.oneCell'=true)(h63:n+m<=maxLen)(hbytes:(n+m)*bytes<=140737488355328)(hbase:base<=w.heap.size)(h:∀f w',w'.ownsRow base e size f (n+m) (xs++news)->w.grownBy w' v.ownBlock->K (a.put o.dst f) w'):o.wp P a w K Q:=by
 cases A with
 | none =>
  have E:news=[]:=by
   cases news with
   | nil=>rfl
   | cons u us =>obtain⟨b,l,k,_⟩:=hr (by simp);cases k
  subst E;have r:m=0:=by
   rcases kx6 m with p|p
   .exact p
   have:=Nat.mul_pos p hsz;simp at hl;omega
  subst r;have h:=h v w (by simpa using hown) (World.grownBy.refl w _);have d:=nO (P:=P) w base t o.type e i size ht hi v n xs hown c;unfold Oper.wp;simp[execOp,ho,resolve,invoke,builtin,hs,hx,d,Result.andThen];exact h
 | some ad =>
  refine wp_append_own w s x t ho base e i z size bytes ht hi hz hsize hby hzs hsz v n xs hs hown ad m c news hx hl ?_ k h63 hbytes hbase (λf w' y C _=>h f w' y C);intro j u q;have g:news≠[]:=by intro e;subst e;simp at q
  obtain⟨b,l,e,_,F⟩:=hr g;cases e;obtain⟨G,D⟩:=kq7.1 q;have:=F j G;rw[D] at this;rw[<-this];congr 1;unfold Addr.add;split
  .simp_all
  rfl
theorem aS(w:World){a:Act}{Q:Exit->Act->World->Prop}(hgd:Region.wanted o (yielded ops a.tmps)=true)(s x:Operand)(t:TypeId)(ho:o.op=.call { callee:=.builtin .append,args:=#[s,x],argTypes:=#[t,t] })(base:Nat)(e:TypeId)(i:TypeInfo)(z:Value)(size bytes:Nat)(ht:P.underlying t=some (.slice e))(hi:P.info? e=some i)(hz:i.zero=some z)(hsize:i.size=size)(hby:i.bytes=bytes)(hzs:z.cells.size=size)(hsz:0<size)(v:Value)(n:Nat)(xs:List Value)(hs:a.eval s=v)(hown:w.ownsRow base e size v n xs)(B:Nat)(A:Option Addr)(m c:Nat)(news:List Value)(hx:a.eval x=.slice A m c)(hl:news.length=m*size)(hr:Rd w B A news)(h1:∀u∈news,u.oneCell'=true)(h63:n+m<=maxLen)(hbytes:(n+m)*bytes<=140737488355328)(hbase:base<=w.heap.size)(h:∀b w',w'.ownsRow base e size b (n+m) (xs++news)->w.grownBy w' v.ownBlock->wpList P ops Q rest (a.put o.dst b) w'):wpList P ops Q (o::rest) a w:=
 wpList_step λ_ f=>by
  rw[if_pos hgd]
  exact fh w s x t ho base e i z size bytes ht hi hz hsize hby hzs hsz v n xs hs hown B A m c news hx hl hr h1 h63 hbytes hbase λb w' d g=>f _ _ (h b w' d g)
theorem kh{a b:Bool}(h:a=b):Ending.returned (.bool a)=.returned (.bool b):=by rw[h]
theorem mp{b:Int}(h:a=b):Ending.returned (.int .i64 a)=.returned (.int .i64 b):=by rw[h]
def al (w:Int):Bool:=decide (256<=w)&&(decide (w<=2048)&&w%8==0)
theorem ac(w:Int):al w=true↔256<=w/\w<=2048/\w%8=0:=by simp[al]
def jX (n:Nat):Int:=if al (n:Int)=true then 0 else 8
theorem aW(h:al (n:Int)=true):jX n=0:=by simp[jX,h]
theorem bA(h:al (n:Int)=false):jX n=8:=by simp[jX,h]
theorem jG(h:jX n=0):256<=n/\n<=2048/\n%8=0:=by
 cases a:al (n:Int) with
 | false=>rw[bA a] at h;cases h
 | true=>have:=(ac _).1 a;omega
theorem Ed(n:Nat)(w:World)(hn:n<=9223372036854775807):Calls prog 135 #[.int .i64 (n:Int)] w λe w'=>e=.returned (.bool (al (n:Int)))/\w=w':=by
 have H:Hid (∀b:Bool,(b=true↔256<=n/\n<=2048/\n%8=0)->b=al (n:Int)):=hid λb h=>by rw[kzr,ac,h];omega
 go_enter func135,ntmps135;go_wp2_with fail
 all_goals
  go_ret;exact⟨kh (H.out _ (by simp;omega)),rfl⟩
theorem aF(A:Option Addr)(n c:Nat)(w:World)(hn:n<=9223372036854775807):Calls prog 87 #[.slice A n c] w λe w'=>e=.returned (.int .i64 (jX n))/\w=w':=by
 cases a:al (n:Int)
 all_goals
  first
   | have b:=hid (aW a)
   | have b:=hid (bA a)
  have d:=hid a;clear a;go_enter func87,ntmps87;go_wp2_with fail;refine (Ed n w hn).mono ?_;rintro e w1 ⟨rfl,rfl⟩;rw[d.out];go_wp2;go_ret;exact⟨by rw[b.out];rfl,rfl⟩
def oA (n:Nat):Bool:=(decide (400<n)&&decide (n<2040))||decide (2060<n)
theorem greatW_no(h:oA n=false):n<=400\/2040<=n/\n<=2060:=by simp only[oA,kzw,kva,kqh] at h;omega
theorem yf(A:Option Addr)(n c:Nat)(w:World)(hm:n<=9223372036854775807):
 Calls prog 12 #[.slice A n c] w λe w'=>e=.returned (.bool (oA n))/\w=w':=by
 have H:Hid (∀b:Bool,(b=true↔(400<n/\n<2040)\/2060<n)->b=oA n):=hid λb h=>by rw[kzr,h];simp[oA]
 go_enter func12,ntmps12;go_wp2_with fail
 all_goals
  go_ret;exact⟨kh (H.out _ (by simp;omega)),rfl⟩
def bD (w k:Nat):Array Value:=((List.range 8).map λi=>Value.int .u8 (if i<k then ((iD w i:Nat):Int) else 0)).toArray
theorem bh(w k:Nat):(bD w k).size=8:=by simp[bD]
theorem dQ(w k i:Nat)(h:i<8):(bD w k)[i]? = some (.int .u8 (if i<k then ((iD w i:Nat):Int) else 0)):=by simp[bD,h]
theorem mz(w k:Nat)(hk:k<8):(bD w k).setIfInBounds k (.int .u8 (iD w k:Nat))=bD w (k+1):=by
 apply kkw;intro i;rw[kjp];by_cases h:i<8
 .rw[dQ _ _ _ h,dQ _ _ _ h];by_cases e:k=i
  .subst e;rw[if_pos rfl,if_pos (by rw[bh];exact h),if_pos (by omega)]
  rw[if_neg e];by_cases a:i<k
  .rw[if_pos a,if_pos (by omega)]
  rw[if_neg a,if_neg (by omega)]
 rw[if_neg (by omega),kz8 (by rw[bh];omega),kz8 (by rw[bh];omega)]
def gl:Array Value:=Array.replicate 8 (.int .u8 0)
theorem uU(w:Nat):gl=bD w 0:=by simp[gl,bD];rfl
theorem vD(w k:Nat):(w:Int)/2 ^ (8*k)%256=((iD w k:Nat):Int):=by rw[iD,show (256:Nat) ^ k=2 ^ (8*k) by rw[Nat.pow_mul]];rfl
theorem Gl:(prog.info? 308).map (·.size)=some 8:=by kernel_rfl
theorem jl:(prog.info? 5).map (λi=>(i.zero,i.size,i.bytes))=some (some (.int .u8 0),1,1):=by kernel_rfl
theorem If(w:World):(isAgg 5).run prog w=.ok false w:=by kernel_rfl
theorem jz(x k:Nat):(bD x k).all (·.oneCell')=true:=by rw[Array.all_eq_true];intro i a;rw[bh] at a;have h:=dQ x k i a;rw[kkn (by rw[bh];exact a)] at h;injection h with h;rw[h];rfl
theorem zp(w:World):(zeroValue 308).run prog w=.ok (.agg gl) w:=by kernel_rfl
theorem FQ(x:Nat)(w:World)(hx:x<18446744073709551616):
 Calls prog 288 #[.int .u64 (x:Int)] w λe w'=>e=.returned (.agg (bD x 8))/\Below w.heap.size w w':=by
 have hzv:=zp;have hx0:(0:Int)<=(x:Int):=by omega
 clear hx;go_enter func288,ntmps288;go_wp2_with fail;go_loopw [4,5] (λi' i wr=>∃k:Nat,k<=8/\i=.int .i64 k/\Bx wr w.heap.size 308 gl/\Bx wr (w.heap.size+1) 308 (bD x k)/\Below w.heap.size w wr) (λ_ i _=>8-(intOf i).toNat)
 case atStart =>
  refine⟨0,kqy _,rfl,(Bx.new w _ _).alloc _,?_,((kql _ _).alloc (kqg _) _).alloc (by simp) _⟩;have:=Bx.new (w.alloc (.cells gl 308)) 308 gl;rw[kqn] at this;rw[<-uU];exact this
 obtain⟨k,hk,rfl,g,d,n⟩:=hrel;have hz:=n.size;by_cases f:k<8
 .have s:=d.cell k;rw[dQ _ _ _ f] at s;have hf:=d.frozen k;have a:=hid d;have q:=hid g;have ik0:(0:Int)<=(k:Int):=by omega
  have ik1:(k:Int)<8:=by omega
  clear g d;go_wp2_with fail;rw[vD];refine⟨⟨k+1,by omega,by go_num,q.out.far (p:=⟨w.heap.size+1,k,none⟩) (by dsimp only;omega) _,?_,n.setCell (p:=⟨w.heap.size+1,k,none⟩) (by dsimp only;omega) _⟩,by simp[intOf];omega⟩;rw[<-mz x k f];exact a.out.set_ k _
 obtain rfl:k=8:=by omega
 have m:(prog.info? 308).map (·.size)=some (bD x 8).size:=by rw[bh];exact Gl
 have h:=jz x 8;have b:=lZ g;rw[show gl.size=(bD x 8).size by rw[bh];simp[gl]] at b;have l:=hid (fS g (cs:=bD x 8) (by rw[bh];simp[gl]));have a:=hid d;have j:=hid (cX (kqg _) (bD x 8).toList (o:=0) n);clear g d;obtain⟨cs,c⟩:=xq (bD x 8);have r:=hid c;rw[c] at m h b l a j;clear c;go_wp2_with (first
  | (refine kja rfl _ _ rfl (w.heap.size+1) (by rfl) 308 cs (0,0) _ a.out underlying308 (by rfl) m ?_)
  | (refine kkq rfl _ _ _ rfl w.heap.size 0 cs (by rfl) (by rfl) b m h ?_))
 exact kqv (v:=.agg cs) (results_cell_row rfl _ _ w.heap.size _ cs (0,0) _ (by rfl) l.out underlying308 (by rfl) m) rfl ⟨by rw[r.out],j.out⟩
theorem lD(n:Nat):IntKind.u64.wrap (n:Int)=((n%18446744073709551616:Nat):Int):=by simp[IntKind.wrap,IntKind.bits,IntKind.signed]
theorem ze(s:Nat)(A:Option Addr)(l:List Nat)(c n:Nat)(w:World)(hn:l.length=n)(hm:n<=2048)(hs:s<18446744073709551616)(hr:RdW w w.heap.size A l)(ho:∀x∈l,x<18446744073709551616):
 Calls prog 264 #[.int .u64 (s:Int),.slice A n c] w λe w'=>e=.returned (.tuple #[.int .u64 (a8 s l:Nat),.int .i64 0])/\Below w.heap.size w w':=by
 subst hn;have R:=hid hr;have T:=hid ho;have V:=hid hs;clear hr ho hs;obtain⟨i0,L,h,r,m⟩:=kzt jl;have S:=hid L;have HZ0:=hid h;have C:=hid r;have HZ2:=hid m;clear L h r m;go_enter func264,ntmps264;go_wp2_with fail;go_loopw [0,15] (λD i wr=>∃k:Nat,k<=l.length/\i=.int .i64 k/\D=.int .u64 (a8 s (l.take k):Nat)/\Below w.heap.size w wr) (λ_ i _=>l.length-(intOf i).toNat)
 case atStart=>exact⟨0,kqy _,rfl,rfl,kql _ _⟩
 obtain⟨k,hk,rfl,rfl,z⟩:=hrel;have W:=z.size;by_cases d:k<l.length
 .obtain ⟨b,E,rfl,U,I⟩:=RdW.at_ R.out d;replace I:=(z.cell (p:=⟨b,E+k,none⟩) U).trans I;have N:=hid (T.out l[k] (kqm d));have H:=hid (lA d s);obtain⟨x,J⟩:=xq (l[k]);rw[J] at I N H;have K:=hid (jg V.out (l.take k));obtain⟨q,Q⟩:=xq (a8 s (l.take k));rw[Q] at H K |-;clear J Q;have ik1:(0:Int)<=(k:Int):=by omega
  have ik2:(k:Int)<(l.length:Int):=by omega
  go_wp2_with fail;refine (FQ x _ N.out).mono ?_;rintro e w1 ⟨rfl,F⟩;have G:=z.trans (F.mono W);go_wp2_with fail;go_loopw [0,21] (λD i wr=>∃j:Nat,j<=8/\i=.int .i64 j/\D=.int .u64 (BM q x j:Nat)/\Below w.heap.size w wr) (λ_ i _=>8-(intOf i).toNat)
  case atStart=>exact⟨0,kqy _,rfl,rfl,G⟩
  obtain⟨j,hj,rfl,rfl,t⟩:=hrel;by_cases f:j<8
  .have a:=dQ x 8 j f;rw[if_pos f] at a;have v:=pu (P:=prog) underlying308 S.out C.out If f a;have B:=rk x j;have o:=hid (sD K.out x j);have g:Hid (BM q x (j+1)=ER (BM q x j) (iD x j)):=hid rfl;obtain⟨p,O⟩:=xq (BM q x j);obtain⟨y,M⟩:=xq (iD x j);rw[O] at o g |-;rw[M] at B v g;clear O M a;have u:=hid (u64_xor_nat p y o.out (by omega));have hxor:=u.out;go_wp2_with fail;refine⟨⟨j+1,by omega,by go_num,?_,t⟩,by simp[intOf];omega⟩;rw[g.out];unfold ER;rw[<-lD,kkx];rfl
  obtain rfl:j=8:=by omega
  go_wp2;go_roundw
  case rel=>exact⟨k+1,by omega,by go_num,by rw[H.out];rfl,t⟩
  case measure=>simp[intOf];omega
 obtain rfl:k=l.length:=by omega
 rw[kz2];go_wp2;go_ret2;exact⟨rfl,z⟩
theorem tp(A:Option Addr)(l:List Nat)(c n:Nat)(w:World)(hn:l.length=n)(hm:n<=2048)(hr:RdW w w.heap.size A l)(ho:∀x∈l,x<18446744073709551616):
 Calls prog 222 #[.slice A n c] w λe w'=>e=.returned (.tuple #[.int .u64 (a8 14695981039346656037 l:Nat),.int .i64 0])/\Below w.heap.size w w':=by have g:=hid hr;have h:=hid ho;have f:=hid hn;clear hr ho hn;go_enter func222,ntmps222;go_wp2_with fail;refine (ze 14695981039346656037 A l c n w f.out hm (by omega) g.out h.out).mono ?_;rintro e w1 ⟨rfl,a⟩;obtain⟨q,b⟩:=xq (a8 14695981039346656037 l);have d:=hid b;rw[b];clear b;go_wp2;go_ret2;exact⟨by rw[d.out];rfl,a⟩
theorem wV(s:Nat):s &&& 4294967295=s%4294967296:=by rw[show (4294967295:Nat)=2 ^ 32-1 from rfl,kjj]
theorem Ex(w:World):Calls prog 224 #[.int .i64 0,.int .i64 32] w λe w'=>e=.returned (.int .u64 4294967295)/\w=w':=by go_enter func224,ntmps224;go_wp2;go_ret;exact⟨rfl,rfl⟩
theorem Gm(s:Nat)(w:World)(hs:s<18446744073709551616):Calls prog 223 #[.int .u64 (s:Int),.int .i64 0,.int .i64 32] w λe w'=>e=.returned (.tuple #[.int .u64 ((s%4294967296:Nat):Int),.int .i64 0])/\w=w':=by have b:=hid (u64_and_nat s 4294967295 hs (by omega));clear hs;go_enter func223,ntmps223;go_wp2_with fail;refine (Ex w).mono ?_;rintro e w1 ⟨rfl,rfl⟩;have a:=b.out;rw[wV] at a;go_wp2;go_ret2;exact⟨by rw[<-a];rfl,rfl⟩
theorem xS(A:Option Addr)(l:List Nat)(c n:Nat)(w:World)(hn:l.length=n)(hm:n<=2048)(a:RdW w w.heap.size A l)(ho:∀x∈l,x<18446744073709551616):
 Calls prog 177 #[.slice A n c,.int .i64 32] w λe w'=>e=.returned (.tuple #[.int .u64 ((a8 14695981039346656037 l%4294967296:Nat):Int),.int .i64 0])/\Below w.heap.size w w':=by have j:=hid a;have k:=hid ho;have i:=hid hn;clear a ho hn;have h:=hid (jg (s:=14695981039346656037) (by omega) l);go_enter func177,ntmps177;go_wp2_with fail;refine (tp A l c n w i.out hm j.out k.out).mono ?_;rintro e w1 ⟨rfl,b⟩;obtain⟨q,f⟩:=xq (a8 14695981039346656037 l);have g:=hid f;rw[f] at h |-;clear f;go_wp2_with fail;refine (Gm q _ h.out).mono ?_;rintro e w2 ⟨rfl,rfl⟩;obtain⟨r,a⟩:=xq (q%4294967296);have d:=hid a;rw[a];clear a;go_wp2;go_ret2;exact⟨by rw[g.out,d.out];rfl,b⟩
theorem eI(n:Nat):rW n=al (n:Int):=by rw[kzr,ac];simp only[rW,kqz,kzz,kqx];omega
def af (ws:List Nat):Int:=if al (ws.length:Int)=true then (match blocks ws 128 with | none=>50 | some l=>if l.all (dm ws)=true then 0 else 50) else 8
def aa (ws:List Nat):List Bk:=if af ws=0 then (blocks ws 128).getD [] else []
theorem mQ(h:al (ws.length:Int)=false):af ws=8:=by simp[af,h]
theorem xD(h:al (ws.length:Int)=true)(h2:blocks ws 128=none):af ws=50:=by simp[af,h,h2]
theorem qP(h:al (ws.length:Int)=true)(h2:blocks ws 128=some l)(h3:l.all (dm ws)=false):af ws=50:=by simp only[af,h,h2,h3,if_true,kzp,if_false]
theorem eV(h:al (ws.length:Int)=true)(h2:blocks ws 128=some l)(h3:l.all (dm ws)=true):af ws=0/\aa ws=l:=by
 have:af ws=0:=by simp only[af,h,h2,h3,if_true]
 exact⟨this,by simp[aa,this,h2]⟩
theorem ao(h:af ws=0):al (ws.length:Int)=true/\∃l,blocks ws 128=some l/\l.all (dm ws)=true/\aa ws=l:=by
 have b:=h;unfold af at h;split at h
 .rename_i h1;refine⟨h1,?_⟩;cases a:blocks ws 128 with
  | none=>rw[a] at h;cases h
  | some l =>
   rw[a] at h;dsimp only at h;split at h
   .rename_i h2;exact⟨l,rfl,h2,by simp[aa,b,a]⟩
   cases h
 cases h
theorem Bt(ws:List Nat):af ws=0\/af ws=8\/af ws=50:=by
 unfold af;split
 .cases blocks ws 128 with
  | none=>simp
  | some l=>dsimp only;split<;>simp
 simp
def ed:List (Int × Int)->Int->Option Int
 | [],_=>none
 | m::l,a=>if m.1=a then some m.2 else ed l a
theorem FE{l:List (Int × Int)}{p:Nat}(hp:p<l.length)(h:∀q (a:q<p),(l[q]'(by omega)).1≠l[p].1):ed l l[p].1=some l[p].2:=by
 induction l generalizing p with
 | nil=>simp at hp
 | cons m l ih =>
  cases p with
  | zero=>simp[ed]
  | succ p =>simp only[ed,kqb];rw[if_neg (by simpa using h 0 (by omega))];exact ih (by simpa using hp) (λq a=>by simpa using h (q+1) (by omega))
theorem vN(h:bL l=0)(s:Int)(hmn:m<=n)(hn:n<=l.length):aI (l.take m) s<=aI (l.take n) s:=by
 obtain⟨_,b⟩:=cN h
 induction n with
 | zero =>
  have:m=0:=by omega
  subst this;exact kk6 _
 | succ n ih =>
  rcases kq9 n m with a|a
  .have:m=n+1:=by omega
   subst this;exact kk6 _
  have h4:=ih a (by omega);have c:=(dH _).1 (dj b (show n<l.length by omega)).1;rw[bB l n (by omega)] at c;rw[gK (by omega)];split<;>omega
theorem xL :∀ {s:Int},aq l s=[]->aI l s=s:=by
 induction l with
 | nil=>intro s _;rfl
 | cons b l ih =>
  intro s h;simp only[aq,aI] at h |-;split at h
  .simp at h
  rename_i hb;rw[if_neg hb];exact ih h
theorem nG(s:Int)(hmn:m<=n):(aq (l.take m) s).length<=(aq (l.take n) s).length:=by
 have:l.take n=l.take m++(l.take n).drop m:=by
  conv=>lhs;rw[<-kxo m (l.take n),List.take_take,kxb hmn]
 rw[this,ff,kqw];omega
theorem xf(h:bL l=0){s:Int}(hs:s<=nC l):(∀p (b:p<(aq l s).length),((aq l s)[p]).2<=((aq l s)[p]).1/\ed (aq l s) ((aq l s)[p]).1=some ((aq l s)[p]).2) /\
 (∀p q (e:q<(aq l s).length) (f:p<q),((aq l s)[p]'(by omega)).2<((aq l s)[q]).2/\((aq l s)[p]'(by omega)).1<((aq l s)[q]).1)/\(∀(b:0<(aq l s).length),((aq l s)[0]).2=s):=by
 obtain⟨_,u⟩:=cN h;have d:∀p q (e:q<(aq l s).length) (f:p<q),((aq l s)[p]'(by omega)).2<((aq l s)[q]).2/\((aq l s)[p]'(by omega)).1<((aq l s)[q]).1:=by
  intro p q e f;obtain⟨k,c,n,a,j⟩:=jd (show p<(aq l s).length by omega);obtain⟨m,r,b1,g,b3⟩:=jd e;rw[kqj (by omega)] at a g;have a:=Option.some.inj a;have g:=Option.some.inj g;have o:k<m:=by
   rcases kq9 k m with i|i
   .exact i
   have:=nG (l:=l) s i;omega
  have v:=vN h s (show k+1<=m by omega) (by omega);have w:=(dH _).1 (dj u c).1;rw[bB l k c] at w;rw[gK c,if_pos n] at v;have t:=kQ h r o;rw[bB l k c,bB l m r] at t;rw[a,g];exact⟨by dsimp only;omega,t⟩
 refine⟨λp b=>?_,d,λb=>?_⟩
 .refine ⟨?_,FE b (λq e=>by have:=(d q p b e).2;omega)⟩;obtain⟨k,c,n,a,j⟩:=jd b;rw[kqj b] at a;rw[Option.some.inj a];have:=rV h hs c;rw[bB l k c] at this;exact this
 obtain⟨k,c,n,a,j⟩:=jd b;rw[kqj b] at a;rw[Option.some.inj a];exact xL (kx0 j)
def dG (l:List Bk):List Int:=(l.filter (·.mark)).map Bk.at_
theorem la:∀ {l:List Bk},(∀b∈l,b.mark=true->b.kind=1)->∀s,dG l=(aq l s).map Prod.fst:=by
 intro l
 induction l with
 | nil=>intro _ s;rfl
 | cons b l d =>
  intro h s;have d:=d (λc f=>h c (by simp[f]));cases a:b.mark with
  | true =>
   have e:aK b=true:=by simp[aK,a,h b (by simp) a]
   simp only[dG,kjy,a,if_true,kxk,aq,e];congr 1;exact d (s+b.size)
  | false =>
   have e:aK b=false:=by simp[aK,a]
   simp only[dG,kjy,a,kzp,if_false,aq,e];exact d s
theorem iV(h:blocks ws i=some l)(h2:i%2=0):∀b∈l,b.mark=true->b.kind=1:=by
 intro b k g;obtain⟨m,d,rfl⟩:=kqu k;obtain⟨a,e,-,-,-,j,-⟩:=bH _ _ h h2 m d;have n:=(bn _).1 (eJ j);rw[e] at g |-;have f:(ah (wd ws a)).mark=true:=g;show (ah (wd ws a)).kind=1;rcases n.2 with c|c
 .exact c.1
 rw[f] at c;exact absurd c.2.2.1 (by simp)
theorem r6{a:Bk}(h:aK a=aK b)(s:Int):bo a s=bo b s:=by unfold bo;rw[h]
theorem s9{a:Bk}(h:aK a=aK b)(h2:a.size=b.size)(s:Int):d7 a s=d7 b s:=by unfold d7;rw[h,h2]
theorem nj:∀ {l:List Bk} {s:Int},aN (fwB l s) s=[]:=by
 intro l
 induction l with
 | nil=>intro s;rfl
 | cons b l ih =>
  intro s;simp only[fwB,aN];have c:aK (if b.kind=1 then { b with next:=bo b s } else b)=aK b:=by split<;>rfl
  have d:(if b.kind=1 then { b with next:=bo b s } else b).size=b.size:=by split<;>rfl
  have e:d7 (if b.kind=1 then { b with next:=bo b s } else b) s=d7 b s:=s9 c d s;have f:bo (if b.kind=1 then { b with next:=bo b s } else b) s=bo b s:=r6 c s;rw[e,ih,f];by_cases a:b.kind=1
  .rw[if_pos a,if_neg (λh=>h.2 rfl)];rfl
  rw[if_neg a,if_neg (λh=>a h.1)];rfl
theorem Al{xs:List Nat}(hw:∀j,j<128->wd xs j=wd ws j)(hb:b.kind=1->tyA b+1<128)(s:Int):dm xs (if b.kind=1 then { b with next:=bo b s } else b)=dm ws b:=by
 by_cases a:b.kind=1
 .rw[if_pos a];have h2:=hb a;unfold dm cD;show (b.kind != 1||(bN (wd xs (tyA b)) (wd xs (tyA b+1))&&b.size==((aP (wd xs (tyA b)%256):Nat):Int)))=_;rw[hw _ (by omega),hw _ (by omega)]
 rw[if_neg a];have:(b.kind != 1)=true:=by rw[kqt];exact a
 simp[dm,this]
theorem CX{xs:List Nat}(hw:∀j,j<128->wd xs j=wd ws j):∀ {l:List Bk} {s:Int},(∀b∈l,b.kind=1->tyA b+1<128)->(∀b∈l,0<=b.size)->l.all (dm ws)=true->0<=s->bJ xs (fwB l s) s=true/\(fwB l s).all (dm xs)=true:=by
 intro l
 induction l with
 | nil=>intro s _ _ _ _;exact⟨rfl,rfl⟩
 | cons b l ih =>
  intro s h i f hs;simp only[List.all_cons,kqz] at f;have e:=Al hw (h b (by simp)) s;have m:aK (if b.kind=1 then { b with next:=bo b s } else b)=aK b:=by split<;>rfl
  have k:(if b.kind=1 then { b with next:=bo b s } else b).size=b.size:=by split<;>rfl
  obtain⟨d,n⟩:=ih (s:=d7 b s) (λc g=>h c (by simp[g])) (λc g=>i c (by simp[g])) f.2 (by have:=i b (by simp);unfold d7;split<;>omega);refine⟨?_,by simp only[fwB,List.all_cons,e,f.1,n,kzx]⟩;simp only[fwB,bJ,e,f.1,kzx,m,k];unfold d7 at d |-;cases a:aK b with
  | true =>
   have o:b.kind=1:=by simp[aK] at a;exact a.1
   simp only[a,if_true] at d |-;rw[d,Bool.and_true,if_pos o];simp only[bo,a,if_true,kqx];omega
  | false =>simp only[a,kzp,if_false] at d |-;exact d
theorem oh(h:af ws=0):∃l,blocks ws 128=some l/\aa ws=l/\dD l 128=0/\a9 (ak ws (aN l 128)) 128 128=0/\iE (ak ws (aN l 128)) 128 128=aq l 128 /\
 af (ak ws (aN l 128))=0/\aa (ak ws (aN l 128))=fwB l 128/\aN (fwB l 128) 128=[]/\dG l=(aq l 128).map Prod.fst:=by
 obtain⟨k,l,d,r,v⟩:=ao h;have o:=(ac _).1 k;have f:=kz (i:=128) (by omega) d (by omega) (by omega) (by omega) (s:=128) (by omega) (by omega) (by omega);obtain⟨hre,-⟩:=dT f;obtain⟨n,y⟩:=th _ ws 128 l (kqg _) d 128;have c:(ak ws (aN l 128)).length=ws.length:=aD _ _;obtain⟨u,q⟩:=CX (xs:=ak ws (aN l 128)) (λj hj=>y j (by omega)) (l:=l) (s:=128) (gA d (by omega)) (λb o=>by
  obtain⟨m,p,rfl⟩:=kqu o;obtain⟨a,e,-⟩:=bH _ _ d (by omega) m p;rw[e,aV];omega) r (by omega)
 have g:a9 (ak ws (aN l 128)) 128 128=0:=by
  rw[ia (l:=fwB l 128) (by rw[c,eI];exact k) ?_ n,if_pos u];rw[c];cases w:gt ws.length 128 128 with
  | false=>rfl
  | true=>exact absurd (by omega) ((kq _ _ _).1 w)
 obtain⟨x,t⟩:=eV (by rw[c];exact k) n q;refine⟨l,d,v,f,g,?_,x,t,nj,la (iV d (by omega)) 128⟩;unfold iE;rw[if_pos g];show (match blocks (ak ws (aN l 128)) 128 with|none=>[] | some l=>aq l 128)=_;rw[n];exact C8.2.1
theorem zl :∀i l,blocks ws i=some l->∀s,(aN l s).Pairwise (λa b=>a.a<b.a):=by
 refine cV _ (λi _ s=>List.Pairwise.nil) (λi l hi d f c s=>?_);have hsz:=aC d;simp only[aN];split
 .refine List.Pairwise.cons (λe g=>?_) (c _);have:=pv _ _ f _ e g;show (bkAt ws i).at_+1<e.a;rw[ab];omega
 exact c _
def iG (b:Bk):Int:=if iF b=true then 0 else 8
theorem ix(h:iF b=true):iG b=0:=by simp[iG,h]
theorem l9(h:iF b=false):iG b=8:=by simp[iG,h]
theorem Ai{xs:Int}(h:(2<=xs/\xs%2=0)/\(xk=1/\0<=xt/\xt<8/\xs<=10\/xk=2/\xt=0/\xm=false/\xs<=1920)):(0:Int)=iG ⟨xa,xs,xk,xt,xm,xn⟩:=(ix ((bn _).2 h)).symm
theorem AT{xs:Int}(h:¬ ((2<=xs/\xs%2=0)/\(xk=1/\0<=xt/\xt<8/\xs<=10\/xk=2/\xt=0/\xm=false/\xs<=1920))):(8:Int)=iG ⟨xa,xs,xk,xt,xm,xn⟩:=
 (l9 (by
  cases a:iF ⟨xa,xs,xk,xt,xm,xn⟩ with
  | false=>rfl
  | true=>exact absurd ((bn _).1 a) h)).symm
theorem qV(b:Bk)(w:World):Calls prog 165 #[b.val] w λe w'=>e=.returned (.int .i64 (iG b))/\Below w.heap.size w w':=by
 obtain⟨xa,xs,xk,xt,a,xn⟩:=b;unfold Bk.val;cases a
 all_goals
  go_enter func165,ntmps165;go_wp2_with fail
  all_goals
   go_ret;refine⟨?_,(kql _ _).alloc (kqg _) _⟩;(try simp only[kqt,ne_eq,kqq,kjf,kky,kqh,kzz] at *)
   first
    | (exfalso;omega)
    | exact mp (Ai (by simp only[reduceCtorEq,and_false,false_and,or_false,true_and];omega))
    | exact mp (AT (by simp only[reduceCtorEq,and_false,false_and,or_false,true_and];omega))
def OfRes (b:Bk) (e:Ending):Prop:=∃a1 a2 a3 a4,e=.returned (.agg #[.int .u64 (ks b:Nat),a1,a2,a3,a4])
theorem jC{a:Nat}(ha:a<2 ^ i):a ||| x*2 ^ i=a+x*2 ^ i:=by rw[Nat.or_comm,nat_join i _ a (by simp) ha,kj0]
theorem tN{K M T S:Nat}{m:Int}(hK:K<256)(hM:M<=1)(hT:T<128)(hS:S<65536)(hm:m=((M*256:Nat):Int)):
 bits BinOp.or .u64 (bits BinOp.or .u64 (bits BinOp.or .u64 (K:Int) m) ((T:Int)*512)) ((S:Int)*65536)=((K+M*256+T*512+S*65536:Nat):Int):=by
 subst hm;have a:=u64_or_nat K (M*256) (by omega) (by omega);have f:K ||| M*256=K+M*256:=by rw[show M*256=M*2 ^ 8 from rfl,jC hK]
 rw[f] at a;rw[a];have b:=u64_or_nat (K+M*256) (T*512) (by omega) (by omega);have e:K+M*256 ||| T*512=K+M*256+T*512:=by rw[show T*512=T*2 ^ 9 from rfl,jC (by omega)]
 rw[e] at b;rw[show ((T:Int)*512)=((T*512:Nat):Int) by simp,b];have c:=u64_or_nat (K+M*256+T*512) (S*65536) (by omega) (by omega);have d:K+M*256+T*512 ||| S*65536=K+M*256+T*512+S*65536:=by rw[show S*65536=S*2 ^ 16 from rfl,jC (by omega)]
 rw[d] at c;rw[show ((S:Int)*65536)=((S*65536:Nat):Int) by simp,c]
theorem nu(w:World)(cs:List Value)(t:TypeId):Rd (w.alloc (.cells cs.toArray t)) (w.heap.size+1) (some ⟨w.heap.size,0,none⟩) cs:=λ_ =>
 ⟨w.heap.size,0,rfl,by omega,λj a=>by
  have:=(Bx.new w t cs.toArray).cell j
  rw[kxm,this]
  simp[a]⟩
theorem hdOf_c(b:Bk)(w:World)(hb:iF b=true):Calls prog 166 #[b.val] w λe w'=>OfRes b e/\Below w.heap.size w w':=by
 obtain⟨a,c,d,f,g,i,h7⟩:=sR hb;clear hb;obtain⟨xa,xs,xk,xt,h,xn⟩:=b;dsimp only at *;obtain⟨K,rfl⟩:=kq5 f;obtain⟨T,rfl⟩:=kq5 g;obtain⟨S,rfl⟩:=kq5 i;simp only[kqk] at a c d;unfold Bk.val;cases h
 all_goals
  go_enter func166,ntmps166;go_wp2_with fail
 .refine kqv (v:=.agg #[.int .u64 (bits BinOp.or .u64 (bits BinOp.or .u64 (bits BinOp.or .u64 (K:Int) 0) ((T:Int)*512)) ((S:Int)*65536)),.int .u64 (K:Int),.int .u64 (T:Int),.int .u64 (S:Int),.int .u64 0]) (by simp[results,results166,go_sem]) rfl ⟨?_,?_⟩
  .refine ⟨.int .u64 (K:Int),.int .u64 (T:Int),.int .u64 (S:Int),.int .u64 0,?_⟩;rw[tN (M:=0) a (by omega) c d (by simp)];rfl
  exact (((kql _ _).alloc (kqg _) _).alloc (by simp) _).alloc (by simp;omega) _
 refine kqv (v:=.agg #[.int .u64 (bits BinOp.or .u64 (bits BinOp.or .u64 (bits BinOp.or .u64 (K:Int) 256) ((T:Int)*512)) ((S:Int)*65536)),.int .u64 (K:Int),.int .u64 (T:Int),.int .u64 (S:Int),.int .u64 1]) (by simp[results,results166,go_sem]) rfl ⟨?_,?_⟩
 .refine ⟨.int .u64 (K:Int),.int .u64 (T:Int),.int .u64 (S:Int),.int .u64 1,?_⟩;rw[tN (M:=1) a (by omega) c d (by simp)];rfl
 exact (((kql _ _).alloc (kqg _) _).alloc (by simp) _).alloc (by simp;omega) _
theorem or32{t:Nat}(hx:x<4294967296)(ht:t<4294967296):bits BinOp.or .u64 (x:Int) ((t:Int)*4294967296)=((x+t*4294967296:Nat):Int):=by have h:=u64_or_nat x (t*4294967296) (by omega) (by omega);rw[show t*4294967296=t*2 ^ 32 from rfl,jC (i:=32) (by omega)] at h;rw[<-h];simp
theorem DA(x:Nat)(w:World)(hx:x<4294967296):Calls prog 167 #[.int .u64 (x:Int)] w λe w'=>e=.returned (.tuple #[.int .u64 ((x+gc x%4294967296*4294967296:Nat):Int),.int .i64 0])/\Below w.heap.size w w':=by
 have c:gc x%4294967296<4294967296:=kz3 _ (by omega);have b:=hid (or32 hx c);have i:=hid hx;have hx0:(0:Int)<=(x:Int):=by omega
 have j:Hid (a8 14695981039346656037 [x]=gc x):=hid rfl;clear hx;go_enter func167,ntmps167;go_wp2_with fail;have d:=nu w [.int .u64 (x:Int)] 53;refine (xS _ [x] _ 1 _ rfl (by omega) (by rw[kqn];exact d) (by intro y h;simp at h;subst h;have:=i.out;omega)).mono ?_;rintro e w1 ⟨rfl,a⟩;rw[kqn] at a;have g:=au a;rw[j.out];obtain⟨t,f⟩:=xq (gc x%4294967296);have k:=hid f;rw[f] at c b |-;clear f a d;go_wp2;go_ret2;exact⟨by rw[k.out,<-b.out];rfl,g⟩
def iX (b:Bk):Nat:=if iF b=true then cg b else 0
theorem pZ(b:Bk)(w:World):Calls prog 105 #[b.val] w λe w'=>e=.returned (.tuple #[.int .u64 (iX b:Nat),.int .i64 (iG b)])/\Below w.heap.size w w':=by
 cases c:iF b
 .have i:=hid (show iX b=0 by simp[iX,c]);have g:=hid (l9 c);have d:=hid (λW=>qV b W);clear c;obtain⟨u,xs,s,C,r,A⟩:=b;unfold Bk.val at d |-;dsimp only at d |-;go_enter func105,ntmps105;go_wp2_with fail;refine (d.out _).mono ?_;rintro e B ⟨rfl,a⟩;rw[kqn] at a;rw[g.out];go_wp2;go_ret2;exact⟨by rw[i.out,g.out];rfl,au a⟩
 have i:=hid (show iX b=ks b+gc (ks b)%4294967296*4294967296 by simp[iX,c,cg]);have g:=hid (ix c);have d:=hid (λW=>qV b W);have m:=hid (λW=>hdOf_c b W c);have p:=hid (t9 c);clear c;obtain⟨q,n⟩:=xq (ks b);have x:=hid n;rw[n] at i p;clear n;obtain⟨u,xs,s,C,r,A⟩:=b;unfold Bk.val at d m |-;dsimp only at d m |-;go_enter func105,ntmps105;go_wp2_with fail;refine (d.out _).mono ?_;rintro e B ⟨rfl,a⟩;rw[kqn] at a;have h:=au a;have o:=Bx.of_new a;obtain⟨c0,c1,c2,c3,c4,c5,-,hz⟩:=o.c6;rw[g.out];clear o a;go_wp2_with fail;refine (m.out _).mono ?_;rintro e w2 ⟨⟨y,t,v,z,rfl⟩,l⟩;have f:=h.trans (l.mono h.size);rw[x.out];have hfld:∀W,(Instr.field 231 (.agg #[.int .u64 (q:Int),y,t,v,z]) 0).run prog W=.ok (.int .u64 (q:Int)) W:=λ_=>by kernel_rfl
 go_wp2_with fail;refine (DA q _ p.out).mono ?_;rintro e w3 ⟨rfl,j⟩;have k:=f.trans (j.mono f.size);rw[<-i.out];go_wp2;go_ret2;exact⟨by rw[g.out];rfl,k⟩
def lN:Bk:=⟨0,0,0,0,false,0⟩
def Cp (w:Nat):Bk:=if az w=true then ah w else lN
def mI (w:Nat):Int:=if az w=true then 0 else 50
theorem lB{w:Nat}(h:az w=true):Cp w=ah w/\mI w=0:=by simp[Cp,mI,h]
theorem ly{w:Nat}(h:az w=false):Cp w=lN/\mI w=50:=by simp[Cp,mI,h]
theorem sB(hx:x<18446744073709551616)(hm:m=2 ^ k-1)(hk:m<18446744073709551616):bits BinOp.and .u64 (x:Int) (m:Int)=((x%2 ^ k:Nat):Int):=by rw[u64_and_nat x m hx hk,hm,kjj]
theorem sG(w:Nat)(hw:w<18446744073709551616):bits BinOp.and .u64 (w:Int) 255=((w%256:Nat):Int)/\bits BinOp.and .u64 ((w:Int)/256) 1=((w/256%2:Nat):Int)/\bits BinOp.and .u64 ((w:Int)/512) 127=((w/512%128:Nat):Int)/\bits BinOp.and .u64 ((w:Int)/65536) 65535=((w/65536%65536:Nat):Int):=
 ⟨sB (k:=8) (m:=255) hw (by decide) (by omega),sB (x:=w/256) (k:=1) (m:=1) (by omega) (by decide) (by omega),sB (x:=w/512) (k:=7) (m:=127) (by omega) (by decide) (by omega),sB (x:=w/65536) (k:=16) (m:=65535) (by omega) (by decide) (by omega)⟩
theorem aL{fn:Func}{p q:Tmp}(h:fn.results=#[.cell p 55,.tmp q])(tmps:Array Value){W:World}{v0 v1 v2 v3 v4 v5 u:Value}(hb:Bx W g t #[v0,v1,v2,v3,v4,v5])(hp:tmps.getD p undef=.pointer (some ⟨g,0,none⟩))(hq:tmps.getD q undef=u):
 (results fn tmps).run prog W=.ok (.tuple #[.agg #[v0,v1,v2,v3,v4,v5],u]) W:=by obtain⟨e,b,d,c,f,a,-,-⟩:=hb.c6;rw[kxp] at hp hq;simp[results,h,hp,hq,go_sem,e,b,d,c,f,a]
theorem mU(x:Nat)(w:World)(hx:x<18446744073709551616):Calls prog 172 #[.int .u64 (x:Int)] w λe w'=>e=.returned (.tuple #[(Cp x).val,.int .i64 (mI x)])/\Below w.heap.size w w':=by
 obtain⟨L,Y,e3,O⟩:=sG x hx;have k:=hid (λW=>pZ (ah x) W);have t:Hid (iG (ah x)=0->iX (ah x)=x->Cp x=ah x/\mI x=0):=hid λQ U=>lB (by
  have hb:iF (ah x)=true:=by
   cases s:iF (ah x) with
   | true=>rfl
   | false=>rw[l9 s] at Q;cases Q
  simp only[iX,hb,if_true] at U;simp[az,hb,U])
 have n:Hid (iG (ah x)≠0\/iX (ah x)≠x->Cp x=lN/\mI x=50):=hid λh=>ly (by
  cases s:iF (ah x) with
  | false=>simp[az,s]
  | true =>
   rcases h with h|h
   .exact absurd (ix s) h
   simp only[iX,s,if_true] at h;simp[az,s,h])
 have hx0:(0:Int)<=(x:Int):=by omega
 have d:(ah x).val=.agg #[.int .i64 0,.int .i64 ((x/65536%65536:Nat):Int),.int .i64 ((x%256:Nat):Int),.int .i64 ((x/512%128:Nat):Int),.bool (x/256%2==1),.int .u64 0]:=rfl;have Z:x%256<256:=kz3 _ (by omega);have m2:x/256%2<2:=kz3 _ (by omega);have P:x/512%128<128:=kz3 _ (by omega);have X:x/65536%65536<65536:=kz3 _ (by omega);rw[d] at k;have a:=hid d;have g:((((x/256%2:Nat):Int))==1)=(x/256%2==1):=by rw[kzr,kqx,kqx];omega
 obtain⟨K,J⟩:=xq (x%256);obtain⟨M,hM⟩:=xq (x/256%2);obtain⟨T,I⟩:=xq (x/512%128);obtain⟨S,N⟩:=xq (x/65536%65536);rw[J] at L Z k a;rw[hM] at Y m2 g k a;rw[I] at e3 P k a;rw[N] at O X k a;obtain⟨r,y⟩:=xq ((M==1));rw[y] at g k a;obtain⟨V,q⟩:=xq (iX (ah x));obtain⟨R,c⟩:=xq (iG (ah x));rw[q,c] at t n k;clear hx d J hM I N y q c;go_enter func172,ntmps172;go_wp2_with fail;have E:=(Bx.new w 55 #[.int .i64 0,.int .i64 0,.int .i64 0,.int .i64 0,.bool false,.int .u64 0]).alloc (.cells #[.int .i64 0,.int .i64 (S:Int),.int .i64 (K:Int),.int .i64 (T:Int),.bool r,.int .u64 0] 55);have D:=Bx.new (w.alloc (.cells #[.int .i64 0,.int .i64 0,.int .i64 0,.int .i64 0,.bool false,.int .u64 0] 55)) 55 #[.int .i64 0,.int .i64 (S:Int),.int .i64 (K:Int),.int .i64 (T:Int),.bool r,.int .u64 0];have i:Below w.heap.size w ((w.alloc (.cells #[.int .i64 0,.int .i64 0,.int .i64 0,.int .i64 0,.bool false,.int .u64 0] 55)).alloc (.cells #[.int .i64 0,.int .i64 (S:Int),.int .i64 (K:Int),.int .i64 (T:Int),.bool r,.int .u64 0] 55)):=((kql _ _).alloc (kqg _) _).alloc (by simp) _;have A:((w.alloc (.cells #[.int .i64 0,.int .i64 0,.int .i64 0,.int .i64 0,.bool false,.int .u64 0] 55)).alloc (.cells #[.int .i64 0,.int .i64 (S:Int),.int .i64 (K:Int),.int .i64 (T:Int),.bool r,.int .u64 0] 55)).heap.size=w.heap.size+2:=by simp
 rw[kqn] at D;obtain⟨H,C⟩:∃H,(w.alloc (.cells #[.int .i64 0,.int .i64 0,.int .i64 0,.int .i64 0,.bool false,.int .u64 0] 55)).alloc (.cells #[.int .i64 0,.int .i64 (S:Int),.int .i64 (K:Int),.int .i64 (T:Int),.bool r,.int .u64 0] 55)=H:=⟨_,rfl⟩;rw[C] at E D i A |-;clear C;refine (k.out H).mono ?_;rintro e w1 ⟨rfl,f⟩;have m:=i.trans (f.mono i.size);obtain⟨c0,c1,c2,c3,c4,c5,o,cz⟩:=(E.up f (by omega)).c6;obtain⟨d0,d1,d2,d3,d4,d5,df,dz⟩:=(D.up f (by omega)).c6;have cf0:=o 0;have cf1:=o 1;have cf2:=o 2;have cf3:=o 3;have cf4:=o 4;have cf5:=o 5;have G:=hid (E.up f (by omega));clear E D f i A o df L Y e3 O g Z m2 P X;by_cases c:R=0
 .by_cases q:V=x
  .obtain ⟨j,l⟩:=t.out c q;have B:=hid j;have z:=hid l;have u:(R != 0)=false:=by rw[kqq];exact c
   have F:((V:Int) != (x:Int))=false:=by rw[kqq];omega
   clear c q j l;go_wp2_with fail;refine kqv (v:=.tuple #[.agg #[.int .i64 0,.int .i64 (S:Int),.int .i64 (K:Int),.int .i64 (T:Int),.bool r,.int .u64 0],.int .i64 0]) (aL results172 _ ((((((G.out.set_ 0 _).set_ 1 _).set_ 2 _).set_ 3 _).set_ 4 _).set_ 5 _) rfl rfl) rfl ⟨by rw[B.out,z.out,a.out],?_⟩;exact (kzl (p:=⟨w.heap.size,5,none⟩) (kzl (p:=⟨w.heap.size,4,none⟩) (kzl (p:=⟨w.heap.size,3,none⟩) (kzl (p:=⟨w.heap.size,2,none⟩) (kzl (p:=⟨w.heap.size,1,none⟩) (kzl (p:=⟨w.heap.size,0,none⟩) m (kqg _) _) (kqg _) _) (kqg _) _) (kqg _) _) (kqg _) _) (kqg _) _)
  obtain⟨j,l⟩:=n.out (.inr q);have B:=hid j;have z:=hid l;have u:(R != 0)=false:=by rw[kqq];exact c
  have F:((V:Int) != (x:Int))=true:=by rw[kqt];omega
  clear c q j l;go_wp2_with fail;refine kqv (v:=.tuple #[.agg #[.int .i64 0,.int .i64 0,.int .i64 0,.int .i64 0,.bool false,.int .u64 0],.int .i64 50]) (aL results172 _ ((((((G.out.set_ 0 _).set_ 1 _).set_ 2 _).set_ 3 _).set_ 4 _).set_ 5 _) rfl rfl) rfl ⟨by rw[B.out,z.out];rfl,?_⟩;exact (kzl (p:=⟨w.heap.size,5,none⟩) (kzl (p:=⟨w.heap.size,4,none⟩) (kzl (p:=⟨w.heap.size,3,none⟩) (kzl (p:=⟨w.heap.size,2,none⟩) (kzl (p:=⟨w.heap.size,1,none⟩) (kzl (p:=⟨w.heap.size,0,none⟩) m (kqg _) _) (kqg _) _) (kqg _) _) (kqg _) _) (kqg _) _) (kqg _) _)
 obtain⟨j,l⟩:=n.out (.inl c);have B:=hid j;have z:=hid l;have u:(R != 0)=true:=by rw[kqt];exact c
 clear c j l;go_wp2_with fail;refine kqv (v:=.tuple #[.agg #[.int .i64 0,.int .i64 0,.int .i64 0,.int .i64 0,.bool false,.int .u64 0],.int .i64 50]) (aL results172 _ ((((((G.out.set_ 0 _).set_ 1 _).set_ 2 _).set_ 3 _).set_ 4 _).set_ 5 _) rfl rfl) rfl ⟨by rw[B.out,z.out];rfl,?_⟩;exact (kzl (p:=⟨w.heap.size,5,none⟩) (kzl (p:=⟨w.heap.size,4,none⟩) (kzl (p:=⟨w.heap.size,3,none⟩) (kzl (p:=⟨w.heap.size,2,none⟩) (kzl (p:=⟨w.heap.size,1,none⟩) (kzl (p:=⟨w.heap.size,0,none⟩) m (kqg _) _) (kqg _) _) (kqg _) _) (kqg _) _) (kqg _) _) (kqg _) _)
def stB (ws:List Nat) (a:Nat):Bk:=if stands ws a=true then bkAt ws a else lN
def sW (ws:List Nat) (a:Nat):Int:=if stands ws a=true then 0 else 50
theorem wu{a:Nat}(h:stands ws a=true):stB ws a=bkAt ws a/\sW ws a=0:=by simp[stB,sW,h]
theorem z9{a:Nat}(h:stands ws a=false):stB ws a=lN/\sW ws a=50:=by simp[stB,sW,h]
theorem ce(h:i<ws.length):wd ws i=ws[i]:=by simp[wd,h]
theorem fd(ho:∀x∈ws,x<18446744073709551616)(i:Nat):wd ws i<18446744073709551616:=by
 by_cases h:i<ws.length
 .rw[ce h];exact ho _ (kqm h)
 simp[wd,h]
theorem lv{x0 x1 x2 x3 x4 x5:Value}(h:Bx w g t #[x0,x1,x2,x3,x4,x5])(u0 u1 u2 u3 u4 u5:Value):
 Bx ((((((w.setCell ⟨g,0,none⟩ u0).setCell ⟨g,1,none⟩ u1).setCell ⟨g,2,none⟩ u2).setCell ⟨g,3,none⟩ u3).setCell ⟨g,4,none⟩ u4).setCell ⟨g,5,none⟩ u5) g t #[u0,u1,u2,u3,u4,u5]:=
 (((((h.set_ 0 u0).set_ 1 u1).set_ 2 u2).set_ 3 u3).set_ 4 u4).set_ 5 u5
theorem eX(h:Below B w0 w)(hg:B<=g)(u0 u1 u2 u3 u4 u5:Value):
 Below B w0 ((((((w.setCell ⟨g,0,none⟩ u0).setCell ⟨g,1,none⟩ u1).setCell ⟨g,2,none⟩ u2).setCell ⟨g,3,none⟩ u3).setCell ⟨g,4,none⟩ u4).setCell ⟨g,5,none⟩ u5):=
 (((((h.setCell (p:=⟨g,0,none⟩) hg u0).setCell (p:=⟨g,1,none⟩) hg u1).setCell (p:=⟨g,2,none⟩) hg u2).setCell (p:=⟨g,3,none⟩) hg u3).setCell (p:=⟨g,4,none⟩) hg u4).setCell (p:=⟨g,5,none⟩) hg u5
theorem l7(A:Option Addr)(ws:List Nat)(c n a:Nat)(w:World)(hn:ws.length=n)(hm:n<=1000000)(ha:a+1<n)(hr:RdW w w.heap.size A ws)(ho:∀x∈ws,x<18446744073709551616):
 Calls prog 112 #[.slice A n c,.int .i64 (a:Int)] w λe w'=>e=.returned (.tuple #[(stB ws a).val,.int .i64 (sW ws a)])/\Below w.heap.size w w':=by
 subst hn;have HR:=hid hr;have s:=fd ho a;have g:=hid (λW=>mU (wd ws a) W s);obtain⟨b,q,rfl,hb,h0⟩:=RdW.at_ hr (show a<ws.length by omega);obtain⟨b',off',e',-,Y⟩:=RdW.at_ hr ha;cases e';rw[<-ce] at h0 Y;have ik0:(0:Int)<=(a:Int):=by omega
 have ik1:(a:Int)<(ws.length:Int):=by omega
 have ik2:(a:Int)+1<(ws.length:Int):=by omega
 have ik3:(0:Int)<=(a:Int)+1:=by omega
 have htn:((a:Int)+1).toNat=a+1:=by omega
 have i:(ah (wd ws a)).val=.agg #[.int .i64 0,.int .i64 ((szAt ws a:Nat):Int),.int .i64 ((wd ws a%256:Nat):Int),.int .i64 ((wd ws a/512%128:Nat):Int),.bool (wd ws a/256%2==1),.int .u64 0]:=rfl;have o:(bkAt ws a).val=.agg #[.int .i64 (a:Int),.int .i64 ((szAt ws a:Nat):Int),.int .i64 ((wd ws a%256:Nat):Int),.int .i64 ((wd ws a/512%128:Nat):Int),.bool (wd ws a/256%2==1),.int .u64 ((wd ws (a+1):Nat):Int)]:=rfl;have V:szAt ws a<65536:=kz3 _ (by omega);have j:Hid (stands ws a=(az (wd ws a)&&decide ((szAt ws a:Int)<=(ws.length:Int)-a))):=hid rfl;have H:Hid (stands ws a=false->stB ws a=lN/\sW ws a=50):=hid z9;have U:Hid (stands ws a=true->stB ws a=bkAt ws a/\sW ws a=0):=hid wu;cases t:az (wd ws a)
 .obtain ⟨l,m⟩:=H.out (by rw[j.out,t];rfl);obtain⟨u,G⟩:=ly t;rw[u,G] at g;have L:=hid l;have E:=hid m;clear hr i o t l m u G s;unfold Bk.val lN at g;dsimp only at g;obtain⟨x,s⟩:=xq (wd ws a);rw[s] at h0 g;clear s;go_enter func112,ntmps112;go_wp2_with fail;refine (g.out _).mono ?_;rintro e Q ⟨rfl,d⟩;rw[kqn] at d;have k:=Bx.of_new d;have h:=au d;have J:=hid k;obtain⟨c0,c1,c2,c3,c4,c5,f,cz⟩:=k.c6;have I:=f 0;have D:=f 1;have B:=f 2;have C:=f 3;have P:=f 4;have N:=f 5;clear k f d;go_wp2_with fail;refine kqv (v:=.tuple #[.agg #[.int .i64 0,.int .i64 0,.int .i64 0,.int .i64 0,.bool false,.int .u64 0],.int .i64 50]) (aL results112 _ ((lv J.out _ _ _ _ _ _).alloc _) rfl rfl) rfl ⟨by rw[L.out,E.out];rfl,(eX h (kqg _) _ _ _ _ _ _).alloc (by simp;have:=h.size;omega) _⟩
 obtain⟨u,G⟩:=lB t;rw[u,G,i] at g;have r:=hid o;obtain⟨S,R⟩:=xq (szAt ws a);obtain⟨K,hK⟩:=xq (wd ws a%256);obtain⟨T,hT⟩:=xq (wd ws a/512%128);obtain⟨M,hM⟩:=xq ((wd ws a/256%2==1));rw[R,hK,hT,hM] at g r;rw[R] at V j;rw[t,kzx] at j;obtain⟨x,O⟩:=xq (wd ws a);obtain⟨y,F⟩:=xq (wd ws (a+1));rw[O] at h0 g;rw[F] at Y r;clear hr i o t u G s R hK hT hM O F;by_cases z:(ws.length:Int)-a<S
 .obtain ⟨l,m⟩:=H.out (by rw[j.out,kqh];omega);have L:=hid l;have E:=hid m;clear l m;go_enter func112,ntmps112;go_wp2_with fail;refine (g.out _).mono ?_;rintro e Q ⟨rfl,d⟩;rw[kqn] at d;have k:=Bx.of_new d;have h:=au d;have J:=hid k;obtain⟨c0,c1,c2,c3,c4,c5,f,cz⟩:=k.c6;have I:=f 0;have D:=f 1;have B:=f 2;have C:=f 3;have P:=f 4;have N:=f 5;clear k f d;go_wp2_with fail;refine kqv (v:=.tuple #[.agg #[.int .i64 0,.int .i64 0,.int .i64 0,.int .i64 0,.bool false,.int .u64 0],.int .i64 50]) (aL results112 _ ((lv J.out _ _ _ _ _ _).alloc _) rfl rfl) rfl ⟨by rw[L.out,E.out];rfl,(eX h (kqg _) _ _ _ _ _ _).alloc (by simp;have:=h.size;omega) _⟩
 obtain⟨l,m⟩:=U.out (by rw[j.out,kqo];omega);have L:=hid l;have E:=hid m;have hle:(S:Int)<=(ws.length:Int)-a:=by omega
 clear l m z;go_enter func112,ntmps112;go_wp2_with fail;refine (g.out _).mono ?_;rintro e Q ⟨rfl,d⟩;rw[kqn] at d;have k:=Bx.of_new d;have h:=au d;have J:=hid k;obtain⟨c0,c1,c2,c3,c4,c5,f,cz⟩:=k.c6;have I:=f 0;have D:=f 1;have B:=f 2;have C:=f 3;have P:=f 4;have N:=f 5;clear k f d;have hbw:b<Q.heap.size:=by have:=h.size;omega
 have Z:=(h.cell (p:=⟨b,q+(a+1),none⟩) hb).trans Y;have hwr:IntKind.i64.wrap ((a:Int)+1)=(a:Int)+1:=kqr _ (by omega);go_wp2_with fail;have hne:=World.new_ne Q ⟨b,q+(a+1),none⟩ Z
 go_region_held3 (λX:World=>X.cell? ⟨b,q+(a+1),none⟩=some (.int .u64 (y:Int))) (go_keep) (fail)
 all_goals
  go_wp2_with fail;refine kqv (v:=.tuple #[.agg #[.int .i64 (a:Int),.int .i64 (S:Int),.int .i64 (K:Int),.int .i64 (T:Int),.bool M,.int .u64 (y:Int)],.int .i64 0]) (aL results112 _ (show Bx (World.drew _) _ _ _ from (lv J.out _ _ _ _ _ _).alloc _) rfl rfl) rfl ⟨by rw[L.out,E.out,r.out],((eX h (kqg _) _ _ _ _ _ _).alloc (by simp;have:=h.size;omega) _).drew⟩
def eP (n:Nat) (a:Int):Bool:=decide (a<128)||(decide ((n:Int)<a)||a%2 != 0)
def bU (ws:List Nat) (a:Int):Int:=if al (ws.length:Int)=true then (if eP ws.length a=true then 2 else (match blocks ws a.toNat with | none=>50 | some _=>0)) else 8
def aO (ws:List Nat) (a:Int):List Bk:=if bU ws a=0 then (blocks ws a.toNat).getD [] else []
def pM (ws:List Nat) (a:Int) (e:Ending) (w':World):Prop:=∃A c,e=.returned (.tuple #[.slice A (aO ws a).length c,.int .i64 (bU ws a)])/\RdB w' w'.heap.size A (aO ws a)/\(aO ws a).length<=c
theorem eZ(h:al (ws.length:Int)=false):bU ws a=8:=by simp[bU,h]
theorem iW(h:al (ws.length:Int)=true)(h2:eP ws.length a=true):bU ws a=2:=by simp[bU,h,h2]
theorem dV(h:al (ws.length:Int)=true)(h2:eP ws.length a=false)(h3:blocks ws a.toNat=none):bU ws a=50:=by simp[bU,h,h2,h3]
theorem cj(h:al (ws.length:Int)=true)(h2:eP ws.length a=false)(h3:blocks ws a.toNat=some l):bU ws a=0/\aO ws a=l:=by
 have:bU ws a=0:=by simp[bU,h,h2,h3]
 exact⟨this,by simp[aO,this,h3]⟩
theorem mn(h:eP n a=false):128<=a/\a<=(n:Int)/\a%2=0:=by simp only[eP,kzw,kqh,kqq] at h;omega
theorem ny(h:¬ (128<=a/\a<=(n:Int)/\a%2=0)):eP n a=true:=by
 cases b:eP n a with
 | true=>rfl
 | false=>exact absurd (mn b) h
theorem kI(hr:bU ws a=r)(h0:r≠0):pM ws a (.returned (.tuple #[.slice none 0 0,.int .i64 r])) w':=by
 subst hr;have:aO ws a=[]:=by simp[aO,h0]
 exact⟨none,0,by rw[this];rfl,by rw[this];exact Rd.nil_,by rw[this];simp⟩
theorem AQ(h0:bU ws a=0)(hl:aO ws a=l)(h:w'.ownsRow H 55 6 v l.length (l.flatMap Bk.cells)):pM ws a (.returned (.tuple #[v,.int .i64 0])) w':=by
 have e:∃A c,v=.slice A l.length c/\l.length<=c:=by
  rcases h.2 with⟨rfl,d⟩|⟨g,cap,cur,rfl,_,_,b,_⟩
  .exact ⟨none,0,by rw[d],by omega⟩
  exact⟨_,_,rfl,b⟩
 obtain⟨A,c,rfl,b⟩:=e;exact⟨A,c,by rw[hl,h0],by rw[hl];exact Rd.of_own h,by rw[hl];exact b⟩
theorem kL:(prog.info? 55).map (λi=>(i.zero,i.size,i.bytes))=some (some (.agg #[.int .i64 0,.int .i64 0,.int .i64 0,.int .i64 0,.bool false,.int .u64 0]),6,48):=by kernel_rfl
theorem pL{sz:Nat}(hown:w.ownsRow H e sz v n xs):some w.heap.size≠v.ownBlock:=λh=>by have:=(hown.lt _ h.symm).2;omega
theorem kU(w:World)(cs:List Value)(t:TypeId)(h:w.heap.size=H):∀j u,cs[j]? = some u->(w.alloc (.cells cs.toArray t)).cell? ((⟨H,0,none⟩:Addr).add j)=some u:=by subst h;exact bY w cs t
theorem lG(A:Option Addr)(ws:List Nat)(c n:Nat)(a:Int)(w:World)(hn:ws.length=n)(hm:n<=9223372036854775807)(hr:RdW w w.heap.size A ws)(ho:∀x∈ws,x<18446744073709551616):
 Calls prog 65 #[.slice A n c,.int .i64 a] w λe w'=>pM ws a e w'/\Below w.heap.size w w':=by
 subst hn;have HR:=hid hr;have HO:=hid ho;clear hr ho;cases y:al (ws.length:Int)
 .have W:=hid (bA y);have M:=hid (eZ (a:=a) y);clear y;go_enter func65,ntmps65;go_wp2_with fail;refine (aF A ws.length c w hm).mono ?_;rintro e C ⟨rfl,rfl⟩;rw[W.out];go_wp2;go_ret2;exact⟨kI M.out (by omega),kql _ _⟩
 have W:=hid (aW y);have HS:=hid y;have hb:=jG (aW y);obtain⟨h,hb2,K⟩:=hb;have Je:=hid K;clear y hm K;by_cases d:128<=a/\a<=(ws.length:Int)/\a%2=0
 .obtain ⟨a1,a2,a3⟩:=d;have N:Hid (eP ws.length a=false):=hid (by
   simp only[eP,kzw,kqh,kqq];omega)
  have Z:(a%2 != 0)=false:=by rw[kqq];exact a3
  have d1:decide (a<128)=false:=by rw[kqh];omega
  have d2:decide ((ws.length:Int)<a)=false:=by rw[kqh];omega
  have Jf:=hid a3;obtain⟨Q,rfl⟩:=kq5 (show 0<=a by omega);have d2n:decide (ws.length<Q)=false:=by rw[kqh];omega
  clear a3;obtain⟨i2,S,F,r,G⟩:=kzt kL;have HJ:=hid S;have Jg:=hid F;have Jc:=hid r;have Jd:=hid G;clear S F r G;go_enter func65,ntmps65;go_wp2_with fail;refine (aF A ws.length c w (by omega)).mono ?_;rintro e C ⟨rfl,rfl⟩;rw[W.out];go_wp2_with fail;go_loopw [1,7] (λp v wr=>∃(i:Nat) (b:List Bk),p=.int .i64 i/\Q<=i/\i<=ws.length/\i%2=0/\blocks ws Q=(blocks ws i).map (b ++ ·)/\b.length<=i/\wr.ownsRow w.heap.size 55 6 v b.length (b.flatMap Bk.cells)/\Below w.heap.size w wr) (λp _ _=>ws.length-(intOf p).toNat)
  case atStart=>exact⟨Q,[],rfl,kqg _,by omega,by have:=Jf.out;omega,by simp,by simp,kq3 _ _ _ _,kql _ _⟩
  obtain⟨i,b,rfl,q1,q2,q3,q4,q5,j,E⟩:=hrel;have U:=E.size;have Ja:=hid q3;have t:=hid q4;clear q4;by_cases L:i<ws.length
  .have s:i+1<ws.length:=by have:=Je.out;omega
   clear q3;have ik1:(i:Int)<(ws.length:Int):=by omega
   cases g:stands ws i
   .have HN:=hid (dV HS.out N.out (by rw[kqk,t.out,cF L g];rfl));obtain⟨I,P⟩:=z9 g;have k:=hid (l7 A ws c ws.length i wr rfl (by omega) s (HR.out.up E U) HO.out);rw[I,P] at k;unfold lN Bk.val at k;dsimp only at k;clear g I P j;go_wp2_with fail;refine k.out.mono ?_;rintro e C ⟨rfl,o⟩;have h:=E.trans (o.mono U);go_wp2;go_ret2;exact⟨kI HN.out (by omega),h.alloc h.size _⟩
   have H:=aC g;obtain⟨I,P⟩:=wu g;have k:=hid (l7 A ws c ws.length i wr rfl (by omega) s (HR.out.up E U) HO.out);rw[I,P] at k;have B:=hid (show blocks ws Q=(blocks ws (i+szAt ws i)).map ((b++[bkAt ws i]) ++ ·) by
    rw[t.out,aG L g];cases blocks ws (i+szAt ws i)<;>simp)
   have O:=hid (bP Bk.cells b (bkAt ws i));have q:=aV ws i;obtain⟨x,hx⟩:=xq (bkAt ws i);obtain⟨z,J⟩:=xq (szAt ws i);rw[hx] at k B O q;rw[J] at B H q;have HX:=hid hx;obtain⟨Y,xs,X,R,V,T⟩:=x;dsimp only at q;subst q;unfold Bk.val at k;dsimp only at k;obtain⟨z1,z2,z3⟩:=H;have Eq:=hid z2;clear g I P hx J z2;go_wp2_with fail;refine k.out.mono ?_;rintro e C ⟨rfl,o⟩;have h:=E.trans (o.mono U);have f:=aj j o (kqg _);have r:=h.size;go_wp2_with (at_builtin;refine kzn _ rfl _ _ 48 rfl w.heap.size 55 i2 _ 6 48 underlying48 HJ.out Jg.out Jc.out Jd.out rfl (by decide) _ _ _ rfl ((f.alloc _).alloc _) ⟨_,0,none⟩ 1 1 [.int .i64 Y,.int .i64 (z:Int),.int .i64 X,.int .i64 R,.bool V,.int .u64 (T:Int)] rfl rfl (kU _ _ _ (kqn _ _)) (by simp[Value.oneCell']) (by unfold maxLen;omega) (by omega) (by simp;omega) ?_;intro v1 w2 D u _;have m:Bx w2 C.heap.size 55 #[.int .i64 Y,.int .i64 (z:Int),.int .i64 X,.int .i64 R,.bool V,.int .u64 (T:Int)]:=((Bx.new C 55 _).alloc _).grown u (pL f);have Jb:=aw (h.alloc r (.cells #[.int .i64 Y,.int .i64 (z:Int),.int .i64 X,.int .i64 R,.bool V,.int .u64 (T:Int)] 55)) (by simp;omega) (f.alloc _) u;have hc1:w2.cell? ⟨C.heap.size,1,none⟩=some (.int .i64 (z:Int)):=m.cell 1;have hf1:=m.frozen 1;have hl1:=m.lt;clear u m);go_roundw
   case rel=>exact⟨i+z,b++[⟨Y,(z:Int),X,R,V,T⟩],by rw[kju],by omega,by omega,by have:=Ja.out;have:=Eq.out;omega,B.out,by simp;omega,by rw[O.out,kqw];exact D,Jb⟩
   case measure=>simp[intOf];omega
  have S:i=ws.length:=by omega
  have HD:=hid (cj HS.out N.out (l:=b) (by rw[kqk,t.out,ay (by omega)];simp));clear S q3;go_wp2;go_ret2;exact⟨AQ HD.out.1 HD.out.2 j,E⟩
 have M:=hid (iW HS.out (ny d));go_enter func65,ntmps65;go_wp2_with fail;refine (aF A ws.length c w (by omega)).mono ?_;rintro e C ⟨rfl,rfl⟩;rw[W.out];by_cases h1:a<128
 .clear d;go_wp2;go_ret2;exact⟨kI M.out (by omega),kql _ _⟩
 by_cases h2:(ws.length:Int)<a
 .clear d;go_wp2;go_ret2;exact⟨kI M.out (by omega),kql _ _⟩
 have Z:(a%2 != 0)=true:=by rw[kqt];omega
 have d1:decide (a<128)=false:=by rw[kqh];omega
 have d2:decide ((ws.length:Int)<a)=false:=by rw[kqh];omega
 have a0:0<=a:=by omega
 clear d;go_wp2;go_ret2;exact⟨kI M.out (by omega),kql _ _⟩
def Fd:List Bk->Option Bk
 | []=>none
 | b::l=>if b.mark=true then some b else Fd l
def ep (l:List Bk) (k:Nat):Prop:=∀j,j<k->(gk l j).mark=false
theorem mH(l:List Bk):ep l 0:=λj h=>absurd h (by omega)
theorem nc(h:ep l k)(h2:(gk l k).mark=false):ep l (k+1):=λj hj=>by
 rcases kq9 j k with a|a
 .exact h j a
 .have:j=k:=by omega
  subst this;exact h2
theorem zY:∀ {l:List Bk},ep l l.length->Fd l=none:=by
 intro l
 induction l with
 | nil=>intro _;rfl
 | cons b l ih =>intro h;have c:b.mark=false:=h 0 (by simp);simp only[Fd,c,kzp,if_false];exact ih λj a=>by have:=h (j+1) (by simpa using a);rwa [gV] at this
theorem Gc:∀ {l:List Bk} {k:Nat},k<l.length->ep l k->(gk l k).mark=true->Fd l=some (gk l k):=by
 intro l
 induction l with
 | nil=>intro k h;simp at h
 | cons b l ih =>
  intro k d h a;cases k with
  | zero =>rw[mx] at a |-;simp[Fd,a]
  | succ k =>have c:b.mark=false:=h 0 (by omega);simp only[Fd,c,kzp,if_false];rw[gV] at a |-;exact ih (by simpa using d) (λj hj=>by have:=h (j+1) (by omega);rwa [gV] at this) a
def be (ws:List Nat) (a:Int):Int:=if bU ws a=0 then (match Fd (aO ws a) with | none=>6 | some _=>0) else bU ws a
def iC (ws:List Nat) (a:Int):Bk:=if bU ws a=0 then (Fd (aO ws a)).getD lN else lN
theorem uQ(h:bU ws a=r)(h0:r≠0):iC ws a=lN/\be ws a=r:=by subst h;simp[iC,be,h0]
theorem zu(h:bU ws a=0)(hl:aO ws a=l)(hn:ep l l.length):iC ws a=lN/\be ws a=6:=by subst hl;simp[iC,be,h,zY hn]
theorem tB(h:bU ws a=0)(hl:aO ws a=l)(hk:k<l.length)(hn:ep l k)(hm:(gk l k).mark=true):iC ws a=gk l k/\be ws a=0:=by subst hl;simp[iC,be,h,Gc hk hn hm]
theorem G0(h:bU ws a=0)(hk:k<(aO ws a).length):(gk (aO ws a) k).kind==1 || !(gk (aO ws a) k).mark:=by
 unfold aO at hk |-;rw[if_pos h] at hk |-;unfold bU at h;split at h
 .split at h
  .simp at h
  rename_i h2;have h3:=mn (by simpa using h2);cases b:blocks ws a.toNat with
  | none=>rw[b] at h;simp at h
  | some l =>
   rw[b] at hk;simp only[kq2] at hk |-;obtain⟨i,e,-,-,-,d,-⟩:=bH _ _ b (by omega) k hk;have f:=(bn _).1 (eJ d);rw[bB l k hk,e];show ((ah (wd ws i)).kind==1 || !(ah (wd ws i)).mark)=true;rcases f.2 with c|c
   .simp[c.1]
   simp[c.2.2.1]
 simp at h
theorem pR(a:Int):(a.tmod 2 != 0)=(a%2 != 0):=by
 have b:a.tmod 2=0↔a%2=0:=by
  constructor
  .intro h;have:=Int.dvd_of_tmod_eq_zero h;omega
  intro h;exact Int.tmod_eq_zero_of_dvd (Int.dvd_of_emod_eq_zero h)
 rw[kzr,kqt,kqt,ne_eq,ne_eq,b]
theorem Ef(hbad:¬ (128<=a/\a<=(n:Int)/\a%2=0)):(a%2 != 0)=true/\(a.tmod 2 != 0)=true\/((a%2 != 0)=false/\(a.tmod 2 != 0)=false)/\a<128\/(a%2 != 0)=false/\128<=a/\(n:Int)<a:=by
 rw[pR];by_cases h:a%2=0
 .have:(a%2 != 0)=false:=by rw[kqq];exact h
  rw[this];by_cases b:a<128
  .exact .inr (.inl ⟨⟨rfl,rfl⟩,b⟩)
  exact .inr (.inr ⟨rfl,by omega,by omega⟩)
 have:(a%2 != 0)=true:=by rw[kqt];exact h
 rw[this];exact .inl ⟨rfl,rfl⟩
theorem gu(ws:List Nat)(a:Int):(aO ws a).length<=4611686018427387904:=by
 unfold aO;split
 .rename_i h;unfold bU at h;split at h
  .rename_i h1;have hb:=(ac _).1 h1;split at h
   .simp at h
   rename_i h2;have h3:=mn (by simpa using h2);cases b:blocks ws a.toNat with
   | none=>simp
   | some l =>have:=(bq (by omega) _ _ b (by omega) (by omega) (by omega)).1;simp only[kq2];omega
  simp at h
 simp
end Go.Proofs.YtpcajamacpbjcaaGreat
