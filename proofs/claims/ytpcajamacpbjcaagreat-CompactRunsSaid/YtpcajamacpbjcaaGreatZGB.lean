import Derived.Test.YtpcajamacpbjcaaGreatZGA
import Derived.Shelf.Spec.SlicesInsertGrow
import Derived.Test.YtpcajamacpbjcaaGreatZKLy2
set_option maxHeartbeats 16000000
set_option maxRecDepth 100000
set_option linter.all false
namespace Go.Proofs.YtpcajamacpbjcaaGreat
open Go.RowKit
variable {R V X:List Value}{k n o:Nat}{w w':World}
open Go.Proofs.Tryz
def ru (x y:Int):Int:=if x<y then -1 else if y<x then 1 else 0
theorem lL(x:Int)(w:World):Calls prog 289 #[.int .i64 x] w λe a=>e=.returned (.bool false)/\w=a:=by go_enter func289,ntmps289;go_wp2;go_ret;exact⟨by simp,rfl⟩
theorem EU(x y:Int)(w:World):Calls prog 268 #[.int .i64 x,.int .i64 y] w λe a=>e=.returned (.int .i64 (ru x y))/\w=a:=by
 by_cases c:x<y
 .have a:Hid (ru x y = -1):=y5 (by unfold ru;rw[if_pos c]);go_enter func268,ntmps268;go_wp2_with fail;refine (lL x w).mono ?_;rintro e b ⟨rfl,rfl⟩;go_wp2_with fail;refine (lL y w).mono ?_;rintro e b ⟨rfl,rfl⟩;go_wp2;go_ret;exact⟨by rw[a.out];rfl,rfl⟩
 by_cases d:y<x
 .have a:Hid (ru x y=1):=y5 (by unfold ru;rw[if_neg c,if_pos d]);go_enter func268,ntmps268;go_wp2_with fail;refine (lL x w).mono ?_;rintro e b ⟨rfl,rfl⟩;go_wp2_with fail;refine (lL y w).mono ?_;rintro e b ⟨rfl,rfl⟩;go_wp2;go_ret;exact⟨by rw[a.out];rfl,rfl⟩
 have a:Hid (ru x y=0):=y5 (by unfold ru;rw[if_neg c,if_neg d]);go_enter func268,ntmps268;go_wp2_with fail;refine (lL x w).mono ?_;rintro e b ⟨rfl,rfl⟩;go_wp2_with fail;refine (lL y w).mono ?_;rintro e b ⟨rfl,rfl⟩;go_wp2;go_ret;exact⟨by rw[a.out];rfl,rfl⟩
theorem Iu(x a:Int)(v:Nat)(f:Bool)(w:World):Calls prog 267 #[.agg #[.int .i64 x,.int .u64 (v:Int),.bool f],.int .i64 a] w λe b=>e=.returned (.int .i64 (ru x a))/\Below w.heap.size w b:=by have b:=y5 (λW=>EU x a W);have d:=y5 ((kqe w.heap.size w).alloc (kqa _) (.cells #[.int .i64 x,.int .u64 (v:Int),.bool f] 92));obtain⟨q,c⟩:=xq (ru x a);rw[c] at b |-;clear c;go_enter func267,ntmps267;go_wp2_with fail;refine (b.out _).mono ?_;rintro e w1 ⟨rfl,rfl⟩;go_wp2;go_ret;exact⟨rfl,d.out⟩
def DH (l:List Dw) (a:Int) (i:Nat):Prop:=i<=l.length/\(∀k (h:k<l.length),k<i->l[k].a<a)/\∀k (h:k<l.length),i<=k->a<=l[k].a
def vK (l:List Dw) (a:Int) (i:Nat):Bool:=match l[i]? with | some e=>e.a==a | none=>false
def IX (l:List Dw) (a:Int) (e:Ending):Prop:=∃i:Nat,e=.returned (.tuple #[.int .i64 (i:Int),.bool (vK l a i)])/\DH l a i
theorem inc_of :∀ {l:List Dw} {b:Int},fP n l b=true->l.Pairwise (λx y=>x.a<y.a):=by
 intro l
 induction l with
 | nil=>intro b _;exact List.Pairwise.nil
 | cons e l d =>intro b h;simp only[fP,kqs,kze] at h;exact List.Pairwise.cons (λx c=>(fc h.2.2 x c).1) (d h.2.2)
theorem uw(A:Option Addr)(l:List Dw)(c n:Nat)(a:Int)(w:World)(f:l.length=n)(hm:n<=1000000)(b:l.Pairwise (λx y=>x.a<y.a))(d:RdQ w w.heap.size A l):
 Calls prog 266 #[.slice A n c,.int .i64 a,.func (.func 267) #[] #[]] w λe g=>IX l a e/\Below w.heap.size w g:=by
 subst f;obtain⟨S,Q,C⟩:=yq1 d (kzg.1 b) (λx v f W=>Iu x a v f W);clear d b;go_enter func266,ntmps266;go_wp2_with fail;go_loopw [9,10] (λi j wr=>∃p q:Nat,p<=q/\q<=l.length/\i=.int .i64 p/\j=.int .i64 q/\Hid (∀k (h:k<l.length),k<p->l[k].a<a)/\Hid (∀k (h:k<l.length),q<=k->a<=l[k].a)/\Below w.heap.size w wr) (λi j _=>(RowKit.intOf j).toNat-(RowKit.intOf i).toNat)
 case atStart=>exact⟨0,l.length,kqv _,kqa _,rfl,rfl,y5 λk h b=>by omega,y5 λk h b=>by omega,kqe _ _⟩
 obtain⟨p,q,hpq,F,rfl,rfl,R,T,s⟩:=hrel;have P:=s.size;by_cases hlt:p<q
 .have J:(p+q)/2<l.length:=(by omega);obtain⟨h,d⟩:=xq ((p+q)/2);rw[d] at J;have hph:p<=h:=(by omega);have hhq:h<q:=(by omega);have i1:IntKind.u64.wrap ((p:Int)+(q:Int))=((p+q:Nat):Int):=by rw[kzi _ (by omega)];omega
  have i2:((p+q:Nat):Int)/2=(h:Int):=(by omega);have i3:((p:Int)+(q:Int))/2=(h:Int):=(by omega);obtain⟨b,o,rfl,N,G,H,I⟩:=RdQ.at_ (show RdQ wr w.heap.size A l from S.out.below s) J;obtain⟨i,L,M⟩:=yq1 (C.out l[h].a l[h].v l[h].f wr) (λk (f:k<l.length) (r:k<h)=>Q.out k h f J r) (λk (f:k<l.length) (r:h<k)=>Q.out h k J f r);obtain⟨x,v⟩:=xq (l[h]);have u:=y5 (show ∀k (f:k<l.length),k=h->l[k].a=x.a from λk f e=>by subst e;rw[v]);rw[v] at G H I i;simp only[v] at L M;obtain⟨y,W,V⟩:=x;dsimp only at G H I i L M u;have E:(h:Int)<(l.length:Int):=(by omega);have O:(0:Int)<=(h:Int):=(by omega);clear v d;by_cases t:y<a
  .have j:ru y a = -1:=by unfold ru;rw[if_pos t]
   rw[j] at i;have m:Hid (∀k (f:k<l.length),k<h+1->l[k].a<a):=y5 λk f r=>by
    rcases kq8 k h with D|D
    .have:=L.out k f D;omega
    have:=u.out k f (by omega);omega
   have z:=y5 s;clear j t s;go_wp2_with fail;refine i.out.mono ?_;rintro e U ⟨rfl,d⟩;have g:=y5 (z.out.trans (d.mono P));clear d;go_wp2;go_roundw
   case rel=>exact⟨h+1,q,by omega,F,by go_num,rfl,m,T,g.out⟩
   case measure=>simp[RowKit.intOf];omega
  have j:0<=ru y a:=by unfold ru;rw[if_neg t];split<;>omega
  obtain⟨B,m⟩:=xq (ru y a);rw[m] at i j;have K:Hid (∀k (f:k<l.length),h<=k->a<=l[k].a):=y5 λk f r=>by
   rcases kq8 h k with D|D
   .have:=M.out k f D;omega
   have:=u.out k f (by omega);omega
  have hd:decide (B<0)=false:=(by rw[kqb];omega);have z:=y5 s;clear m t s j;go_wp2_with fail;refine i.out.mono ?_;rintro e U ⟨rfl,d⟩;have g:=y5 (z.out.trans (d.mono P));clear d;go_wp2;go_roundw
  case rel=>exact⟨p,h,by omega,by omega,rfl,by go_num,R,K,g.out⟩
  case measure=>simp[RowKit.intOf];omega
 obtain rfl:p=q:=(by omega);obtain⟨t,z⟩:=yq0 (show DH l a p from ⟨F,R.out,T.out⟩) s;have hend:decide ((p:Int)<(p:Int))=false:=(by rw[kqb];omega);by_cases j:p<l.length
 .obtain ⟨b,o,rfl,N,G,H,I⟩:=RdQ.at_ (show RdQ wr w.heap.size A l from S.out.below s) j;have i:=y5 (C.out l[p].a l[p].v l[p].f wr);have f:vK l a p=(l[p].a==a):=by unfold vK;rw[kqg j]
  obtain⟨x,v⟩:=xq (l[p]);rw[v] at G H I i f;obtain⟨y,W,V⟩:=x;dsimp only at G H I i f;have r:(ru y a==0)=vK l a p:=by
   rw[f,kzk,kqw,kqw];unfold ru;split
   .omega
   split<;>omega
  have k:=y5 r;obtain⟨B,m⟩:=xq (ru y a);rw[m] at i k;have E:(p:Int)<(l.length:Int):=(by omega);have O:(0:Int)<=(p:Int):=(by omega);clear v f r m s;go_wp2_with fail;refine i.out.mono ?_;rintro e U ⟨rfl,d⟩;have g:=y5 (z.out.trans (d.mono P));clear d;go_wp2;go_ret2;exact⟨⟨p,by rw[<-k.out];rfl,t.out⟩,g.out⟩
 have f:Hid (vK l a p=false):=y5 (by unfold vK;rw[kzj (by omega)]);have E:decide ((p:Int)<(l.length:Int))=false:=(by rw[kqb];omega);have hkn:decide (p<l.length)=false:=by rw[kqb];exact j
 clear j s;go_wp2;go_ret2;exact⟨⟨p,by rw[f.out];rfl,t.out⟩,z.out⟩
theorem Fg(A d:Option Addr)(dw:List Dw)(p:Int)(l:Bool)(n c m g:Nat)(a:Int)(w:World)(i:dw.length=m)(j:m<=1000000)(b:dw.Pairwise (λx y=>x.a<y.a))(o:RdQ w w.heap.size d dw):
 Calls prog 227 #[.agg #[.slice A n c,.slice d m g,.int .i64 p,.bool l],.int .i64 a] w λe f=>IX dw a e/\Below w.heap.size w f:=by have k:=y5 (λW (h:RdQ W W.heap.size d dw)=>uw d dw g m a W i j b h);unfold IX at k |-;obtain⟨f,q⟩:=yq0 ((kqe w.heap.size w).alloc (kqa _) (.cells #[.slice A n c,.slice d m g,.int .i64 p,.bool l] 79)) o;clear o b i;go_enter func227,ntmps227;go_wp2_with fail;refine (k.out _ (yq8 q f)).mono ?_;rintro e w1 ⟨⟨i,rfl,h⟩,b⟩;have o:=y5 h;clear h;go_wp2;go_ret2;exact⟨⟨i,rfl,o.out⟩,f.out.trans (b.mono f.out.size)⟩
theorem stQ_at{a:Int}{v:Nat}:∀ {l:List Dw} {i:Nat},DH l a i->stQ l a v=if vK l a i=true then l.set i ⟨a,v,false⟩ else l.take i++⟨a,v,false⟩::l.drop i:=by
 intro l
 induction l with
 | nil =>
  intro i h;have:i=0:=by have:=h.1;simpa using this
  subst this;rfl
 | cons e l g =>
  intro i h;cases i with
  | zero =>
   have c:=h.2.2 0 (by simp) (kqa _);simp only[kqn] at c;unfold stQ;rw[if_neg (by omega)];by_cases b:e.a=a
   .rw[if_pos b,if_pos (by unfold vK;simp[b])];rfl
   rw[if_neg b,if_neg (by unfold vK;simp[b])];rfl
  | succ i =>
   have d:=h.2.1 0 (by simp) (by omega);simp only[kqn] at d;have f:DH l a i:=by
    refine⟨by have:=h.1;simpa using this,λk b c=>?_,λk b c=>?_⟩
    .have:=h.2.1 (k+1) (by simpa using b) (by omega)
     simpa using this
    have:=h.2.2 (k+1) (by simpa using b) (by omega)
    simpa using this
   have b:vK (e::l) a (i+1)=vK l a i:=by unfold vK;simp
   unfold stQ;rw[if_pos d,g f,b];split<;>rfl
theorem gx{P:Program}(w:World)(n A B c:TypeId)(sz k b o d f:Nat)(a:Addr)(e h:Nat)(cs:List Value)(z:P.underlying n=some (.slice c))(q:(P.info? c).map (·.size)=some sz)(x:Nat.min e d=k)(y:cs.length=k*sz)(g:∀j v,cs[j]? = some v->w.cell? (a.add j)=some v)(s:∀j,j<cs.length->(w.cell? ⟨b,o+j,none⟩).isSome=true)(t:∀j,j<cs.length->w.frozen? ⟨b,o+j,none⟩=false)(r:∀v∈cs,v.oneCell'=true):
 (Builtin.copy_ #[n,A] B #[.slice (some ⟨b,o,none⟩) d f,.slice (some a) e h]).run P w=.ok (goInt k) (w.setCells b o cs):=by
 have p:=run_loadCells_list (P:=P) w a cs g;have m:=run_storeCells_cells (P:=P) b o cs 0 w (by simpa using s) (by simpa using t) r;rw[y] at p;cases l:P.info? c with
 | none=>simp[l] at q
 | some i =>
  have u:i.size=sz:=by simpa [l] using q
  simp[Builtin.copy_,run_underlying z,Builtin.lenOf,Builtin.firstCells,sizeOf,typeInfo,l,u,x,p,m]
theorem lX:∀(b a:List Value) (o:Nat),o+b.length<=a.length->s7 a o b=a.take o++(b++a.drop (o+b.length)):=by
 intro b
 induction b with
 | nil=>intro a o _;simp[s7]
 | cons v b d =>
  intro a o h;rw[kq4] at h;show s7 (a.set o v) (o+1) b=_;rw[d _ _ (by rw[kq5];omega)];have c:(a.set o v).take (o+1)=a.take o++[v]:=by rw[kqi (by rw[kq5];omega),kvs (kqa _)];simp
  have d:(a.set o v).drop (o+1+b.length)=a.drop (o+(b.length+1)):=by rw[kvt (by omega)];congr 1;omega
  rw[c,d,kx9];rfl
theorem Dt{S:List Value}(c:X=S++R)(e:o<=S.length)(b:V.length=k)(a:R.length=k):s7 (s7 X (o+k) (S.drop o)) o V=S.take o++(V++S.drop o):=by subst c;have c:(S.drop o).length=S.length-o:=kz2;rw[lX (S.drop o) (S++R) (o+k) (by rw[kqu,c,a];omega)];have d:(S++R).drop (o+k+(S.drop o).length)=[]:=kj0 (by rw[kqu,c,a];omega);rw[d,kzf,lX _ _ _ (by rw[kqu,kq6,kqu,c,b,a];omega)];rw[kxp (by rw[kq6,kqu,a];omega),kkl,kxo (by omega),kxp e];congr 2;rw[List.drop_append,kj0 (by rw[kq6,kqu,a,b];omega),kz5,kq6,kqu,a,b,kxo (by omega),kvu];rfl
theorem r7(l:List Dw)(i:Nat)(x:Dw):(l.take i++x::l.drop i).flatMap Dw.cells=(l.flatMap Dw.cells).take (i*3)++(x.cells++(l.flatMap Dw.cells).drop (i*3)):=by rw[kzv,kzz,ia Dw.cells 3 Dw.len,sM Dw.cells 3 Dw.len]
theorem eB{r:Option Nat}(h:Below w.heap.size w w'):w.grownBy w' r:=⟨h.os,h.tape,h.output,h.size,λk a _=>h.block k a⟩
theorem eZ{g:Nat}{vs:List Value}(h:w.grownBy w' (some g)):w.grownBy (w'.setCells g o vs) (some g):=by have b:=bt (B:=0) (kqv g) vs (o:=o) (kqe 0 w');refine⟨b.os.trans h.os,b.tape.trans h.tape,b.output.trans h.output,by rw[cY];exact h.size,λk c a=>?_⟩;rw[dW (λe=>a (by rw[e]))];exact h.block k c a
open Go.RowKit Go.Lib
def DU (l:List Dw) (i:Nat) (x:Dw) (H:Nat) (r:Option Nat) (w:World) (e:Ending) (w':World):Prop:=(∃A c,e=.returned (.slice A (l.length+1) c)/\w'.ownsRow H 92 3 (.slice A (l.length+1) c) (l.length+1) ((l.take i++x::l.drop i).flatMap Dw.cells))/\w.grownBy w' r
theorem Fs(p:Option Addr)(l:List Dw)(o:Nat)(x:Dw)(n H:Nat)(w:World)(hm:l.length<=1000000)(A:H<=w.heap.size)(c:w.ownsRow H 92 3 (.slice p l.length o) l.length (l.flatMap Dw.cells))(s:Bx w n 92 #[.int .i64 x.a,.int .u64 (x.v:Int),.bool x.f]):
 Calls prog 228 #[.slice p l.length o,.int .i64 (l.length:Int),.slice (some ⟨n,0,none⟩) 1 1] w λe b=>DU l l.length x H (Value.slice p l.length o).ownBlock w e b:=by
 have m:=d6 c;have y:=y5 c;have z:Hid (∀j u,([.int .i64 x.a,.int .u64 (x.v:Int),.bool x.f]:List Value)[j]? = some u->w.cell? ((⟨n,0,none⟩:Addr).add j)=some u):=y5 λj u b=>by
  rw[iO,kxg,s.cell j]
  simpa using b
 have t:Hid ((l.take l.length++x::l.drop l.length).flatMap Dw.cells=l.flatMap Dw.cells++[.int .i64 x.a,.int .u64 (x.v:Int),.bool x.f]):=y5 (by rw[kzb,kj2,kzv];rfl);obtain⟨B,g,b,d,e⟩:=kzh pd;obtain⟨u,i,j,k⟩:=yq2 g b d e;clear g b d e;by_cases r:o=l.length
 .subst r;clear c s m;go_enter func228,ntmps228;go_wp2_with (at_builtin;refine kq7 _ rfl _ _ 77 rfl H 92 B _ 3 24 underlying77 u.out i.out j.out k.out rfl (by decide) _ _ _ rfl y.out ⟨n,0,none⟩ 1 1 [.int .i64 x.a,.int .u64 (x.v:Int),.bool x.f] rfl rfl z.out (by simp[Value.oneCell']) (by unfold maxLen;omega) (by omega) A ?_;intro v1 C b d _;obtain⟨q,h,rfl⟩:=aw b;have g:=y5 b;have e:=y5 d;clear b d);go_ret;exact⟨⟨q,h,rfl,by rw[t.out];exact g.out⟩,e.out⟩
 clear c s;go_enter func228,ntmps228;go_wp2_with (at_builtin;refine kq7 _ rfl _ _ 77 rfl H 92 B _ 3 24 underlying77 u.out i.out j.out k.out rfl (by decide) _ _ _ rfl y.out ⟨n,0,none⟩ 1 1 [.int .i64 x.a,.int .u64 (x.v:Int),.bool x.f] rfl rfl z.out (by simp[Value.oneCell']) (by unfold maxLen;omega) (by omega) A ?_;intro v1 C b d _;obtain⟨q,h,rfl⟩:=aw b;have g:=y5 b;have e:=y5 d;clear b d);go_ret;exact⟨⟨q,h,rfl,by rw[t.out];exact g.out⟩,e.out⟩
theorem Jl(g:Nat)(l:List Dw)(b i:Nat)(x:Dw)(A H:Nat)(w:World)(hm:l.length<=1000000)(hi:i<l.length)(G:l.length+1<=b)(_hH:H<=w.heap.size)(z:w.ownsRow H 92 3 (.slice (some ⟨g,0,none⟩) l.length b) l.length (l.flatMap Dw.cells))(m:Bx w A 92 #[.int .i64 x.a,.int .u64 (x.v:Int),.bool x.f])(Q:A≠g):
 Calls prog 228 #[.slice (some ⟨g,0,none⟩) l.length b,.int .i64 (i:Int),.slice (some ⟨A,0,none⟩) 1 1] w λe c=>DU l i x H (some g) w e c:=by
 obtain⟨n,r,R,hle,F,D,I⟩:=rC z;have T:(l.flatMap Dw.cells).length=l.length*3:=bU Dw.cells 3 Dw.len l;have hc63:b<=9223372036854775807:=by unfold maxLen at F;exact F
 have Y:∀o d c,(callFunc 269 #[.slice (some ⟨A,0,none⟩) 1 1,.slice (some ⟨g,o,none⟩) d c]).run prog w=.ok (.value (.bool false)) w:=λo d c=>by
  rw[run_callFunc_extern func269 (by kernel_rfl) (by kernel_rfl) (by kernel_rfl) (e:=Extern.SlicesOverlaps.overlaps #[77,77] #[4]) (by kernel_rfl),
   Lib.run_overlaps_apart w 77 4 92 underlying77 3 (λw=>by kernel_rfl) ⟨A,0,none⟩ ⟨g,o,none⟩ 1 1 d c Q 92 92 3 (b*3) (by simp[World.shape?,show w.heap[A]? = _ from m]) (by simp[World.shape?,r,D]) (by omega) (by rw[m.frozen]) (by rw[m.frozen])]
  rfl
 have q:∀j v,n[j]? = some v->w.cell? ⟨g,j,none⟩=some v:=λj v c=>by
  simp[World.cell?,r,c]
 have e:∀j,j<b*3->(w.cell? ⟨g,j,none⟩).isSome=true:=λj c=>by
  rw[q j (n[j]'(by omega)) (kqg _)];rfl
 have E:∀j,w.frozen? ⟨g,j,none⟩=false:=λj=>by
  simp[World.frozen?,r]
 have s:∀v∈l.flatMap Dw.cells,v.oneCell'=true:=λv m=>by
  obtain⟨y,-,d⟩:=kvi.1 m;simp only[Dw.cells,kq0,kzm,or_false] at d;rcases d with rfl|rfl|rfl<;>rfl
 have C:∀j v,(l.flatMap Dw.cells)[j]? = some v->w.cell? ⟨g,j,none⟩=some v:=λj v c=>by
  apply q;rw[<-I] at c;have:=kk4 (l:=n) (i:=l.length*3) (j:=j);rw[this] at c;split at c
  .exact c
  cases c
 obtain⟨S,u⟩:=xq (l.flatMap Dw.cells);obtain⟨X,L⟩:=xq (n.take ((l.length+1)*3));have t:w.drew.ownsRow H 92 3 (.slice (some ⟨g,0,none⟩) (l.length+1) b) (l.length+1) X:=by
  refine⟨by rw[<-L,kq6];omega,Or.inr ⟨g,b,n.toArray,rfl,R,r,G,F,by simpa using D,?_⟩⟩
  simpa using L
 have M:X=S++X.drop (l.length*3):=by
  have J:X.take (l.length*3)=S:=by rw[<-L,kkl,kxo (by omega),<-u];exact I
  rw[<-J,kz6]
 have N:(X.drop (l.length*3)).length=3:=by rw[kz2,<-L,kq6];omega
 rw[u] at T s C;have P:(S.drop (i*3)).length=(l.length-i)*3:=by rw[kz2,T];omega
 have p:∀h b d,(Builtin.copy_ #[77,77] h #[.slice (some ⟨g,(i+1)*3,none⟩) (l.length-i) b,.slice (some ⟨g,i*3,none⟩) (l.length+1-i) d]).run prog w.drew=.ok (goInt ((l.length-i:Nat):Int)) (w.drew.setCells g ((i+1)*3) (S.drop (i*3))):=λh b d =>
  gx w.drew 77 77 h 92 3 (l.length-i) g ((i+1)*3) (l.length-i) b ⟨g,i*3,none⟩ (l.length+1-i) d (S.drop (i*3)) underlying77 (by kernel_rfl) (by simp only[Nat.min_def];split<;>omega) P
   (λj v c=>by rw[iO];exact C (i*3+j) v (by rwa [kjh] at c))
   (λj c=>e _ (by omega)) (λj c=>E _) (λv m=>s v (kxt m))
 obtain⟨B,d⟩:∃B,B=w.drew.setCells g ((i+1)*3) (S.drop (i*3)):=⟨_,rfl⟩;have y:∀k,k<b*3->(B.cell? ⟨g,k,none⟩).isSome=true:=λk K=>by
  rw[d];exact World.isSome_setCells g _ _ _ _ (e k K)
 have O:∀(W:World),(∀x,W.cell? x=B.cell? x)->(∀x,W.frozen? x=B.frozen? x)->∀h b,(Builtin.copy_ #[77,77] h #[.slice (some ⟨g,i*3,none⟩) (l.length+1-i) b,.slice (some ⟨A,0,none⟩) 1 1]).run prog W=.ok (goInt 1) (W.setCells g (i*3) x.cells):=λW K U h b =>
  gx W 77 77 h 92 3 1 g (i*3) (l.length+1-i) b ⟨A,0,none⟩ 1 1 x.cells underlying77 (by kernel_rfl) (by simp only[Nat.min_def];split<;>omega) rfl
   (λj v c=>by
    rw[iO,kxg,K,d,kjb g _ _ _ _ (λh _=>absurd h Q)];exact (m.cell j).trans (by simpa [Dw.cells] using c))
   (λj c=>by rw[K];exact y _ (by have:x.cells.length=3:=rfl;omega)) (λj c=>by rw[U,d,World.frozen?_setCells];exact E _) (λv m=>by
    simp only[Dw.cells,kq0,kzm,or_false] at m;rcases m with rfl|rfl|rfl<;>rfl)
 have c:Hid ((B.setCells g (i*3) x.cells).ownsRow H 92 3 (.slice (some ⟨g,0,none⟩) (l.length+1) b) (l.length+1) ((l.take i++x::l.drop i).flatMap Dw.cells)):=y5 (by
  have J:=dC x.cells (i*3) _ _ (dC (S.drop (i*3)) ((i+1)*3) _ _ t);rw[<-d] at J;have h:(i+1)*3=i*3+3:=(by omega);rw[h,Dt (o:=i*3) (k:=3) (V:=x.cells) M (by omega) rfl N] at J;rw[r7,u];exact J)
 have h:Hid (w.grownBy (B.setCells g (i*3) x.cells) (some g)):=y5 (by
  rw[d];exact eZ (eZ (eB (Below.drew (kqe _ w)))))
 rw[<-d] at p;have hz1:¬ ((i:Int)=(l.length:Int)):=(by omega);have hb2:¬ (b=i+1):=(by omega);have hb4:¬ (b=i):=(by omega);have hin:i<=l.length:=(by omega);have hw1:IntKind.i64.wrap ((i:Int)+1)=(i:Int)+1:=by rw[IntKind.wrap_i64];omega
 have hw2:IntKind.i64.wrap ((l.length:Int)+1)=(l.length:Int)+1:=by rw[IntKind.wrap_i64];omega
 have hb3:(i:Int)<=(l.length:Int)+1:=(by omega);have hb5:(i:Int)+1<=(l.length:Int)+1:=(by omega);have hb1:(0:Int)<=(i:Int)+1:=(by omega);have htn:((i:Int)+1).toNat=i+1:=(by omega);have htm:((l.length:Int)+1).toNat=l.length+1:=(by omega);have mixed:prog.follows .mixedOrders=true:=by kernel_rfl
 clear d z m I D r q e E s C L t M N T P y u;go_enter func228,ntmps228;go_wp2_with (simp only[Y])
 go_region_law_o (refine step_copy_runI rfl _ _ 77 77 rfl _ _ (by simp[Act.eval,Act.put]) (by simp[Act.eval,Act.put]) (p _ _ _) ?_)
 clear p;go_wp2_with ((with_reducible refine tG ?_);refine wpList_copy_runI _ rfl _ _ 77 77 rfl _ _ rfl rfl (O _ (λ_=>rfl) (λ_=>rfl) _ _) ?_);go_ret;exact⟨⟨_,_,rfl,c.out⟩,h.out⟩
theorem EF{T D:List Value}(d:X=T++R)(a:T.length=o)(b:V.length=k)(c:R.length=k+D.length):s7 (s7 X o V) (o+k) D=T++(V++D):=by
 subst d;have e:s7 (T++R) o V=T++(V++R.drop k):=by rw[lX _ _ _ (by rw[kqu,a,b,c];omega),kxp (by omega),kza (by omega),List.drop_append,kj0 (by omega),kz5,a,b];congr 2;congr 1;omega
 rw[e,lX _ _ _ (by simp only[kqu,kz2,a,b,c];omega)];have d:(T++(V++R.drop k)).drop (o+k+D.length)=[]:=kj0 (by simp only[kqu,kz2,a,b,c];omega);rw[d,kzf,<-kx9,kxp (by rw[kqu];omega),kza (by rw[kqu];omega),kx9]
theorem jO(vs:Array Value)(n:Nat):(Builtin.zeroCells vs n).toList.length=n*vs.size:=by simp[Builtin.zeroCells]
theorem Bt(g:Nat)(l:List Dw)(i:Nat)(x:Dw)(D H:Nat)(w:World)(hm:l.length<=1000000)(hi:i<l.length)(hH:H<=w.heap.size)(C:w.ownsRow H 92 3 (.slice (some ⟨g,0,none⟩) l.length l.length) l.length (l.flatMap Dw.cells))(z:Bx w D 92 #[.int .i64 x.a,.int .u64 (x.v:Int),.bool x.f]):
 Calls prog 228 #[.slice (some ⟨g,0,none⟩) l.length l.length,.int .i64 (i:Int),.slice (some ⟨D,0,none⟩) 1 1] w λe b=>DU l i x H (some g) w e b:=by
 obtain⟨cur,X,hHg,hle,hmx,Kg,Ka⟩:=rC C;have hS:(l.flatMap Dw.cells).length=l.length*3:=bU Dw.cells 3 Dw.len l;have b:cur=l.flatMap Dw.cells:=by rw[<-Ka,kza (by omega)]
 subst b;have q:∀j v,(l.flatMap Dw.cells)[j]? = some v->w.cell? ⟨g,j,none⟩=some v:=λj v e=>by
  simp[World.cell?,X,e]
 have s:∀v∈l.flatMap Dw.cells,v.oneCell'=true:=λv z=>by
  obtain⟨y,-,b⟩:=kvi.1 z;simp only[Dw.cells,kq0,kzm,or_false] at b;rcases b with rfl|rfl|rfl<;>rfl
 obtain⟨S,F⟩:=xq (l.flatMap Dw.cells);have Kh:g<w.heap.size:=by have O:=q 0 ((l.flatMap Dw.cells)[0]'(by omega)) (kqg _);exact block_lt_of_cell O
 have Ki:D<w.heap.size:=block_lt_of_cell (v:=.int .i64 x.a) ((z.cell 0).trans (by simp));obtain⟨i0,Y,M,Kb,N⟩:=kzh pd;have Eq:(l.length:Int)+1-(i:Int)=((l.length+1-i:Nat):Int):=(by omega);have K:i+(l.length+1-i)=l.length+1:=(by omega);rw[F] at hS s q;have d:(S.take (i*3)).length=i*3:=(by rw[kq6];omega);have J:(S.drop (i*3)).length=(l.length-i)*3:=by rw[kz2,hS];omega
 have B:(Builtin.firstCells i0.size i (.slice (some ⟨g,0,none⟩) i l.length)).run prog w.drew=.ok (S.take (i*3)).toArray w.drew:=by
  rw[Kb];exact run_firstCells_some w.drew 3 i ⟨g,0,none⟩ i l.length (S.take (i*3)) d (λj v e=>by
   rw[iO,kxg];rw[kk4] at e;split at e
   .exact q j v e
   cases e)
 obtain⟨Z,hZ⟩:∃Z:Value,Z=.agg #[.int .i64 0,.int .u64 0,.bool false]:=⟨_,rfl⟩;rw[<-hZ] at M;have n:Z.cells.size=3:=by rw[hZ];rfl
 obtain⟨G,hG⟩:∃G,G=grownCap w (l.length+1) l.length 92:=⟨_,rfl⟩;have L:∀u,(Builtin.append_ #[77,3] u #[.slice (some ⟨g,0,none⟩) i l.length,.int .i64 ((l.length:Int)+1-(i:Int))]).run prog w =
  .ok (.slice (some ⟨w.heap.size,0,none⟩) (l.length+1) G) (w.drew.alloc (.cells ((S.take (i*3)).toArray++Builtin.zeroCells Z.cells (l.length+1-i)++Builtin.zeroCells Z.cells (G-(l.length+1))) 92)):=λu=>by
  have h:=Lib.run_append_grow_zeros w 77 3 u 92 i0 _ .i64 .i64 underlying77 underlying3 Y M (some ⟨g,0,none⟩) i l.length (S.take (i*3)) B (l.length+1-i) (by omega) (by omega) (by omega) (by omega) (by rw[N];omega) (by rw[N,K];exact growslice_fits (by omega) (by omega));rw[K,<-hG] at h;rw[Eq];exact h
 have Kc:l.length+1<=G:=by rw[hG];exact grownCap_ge w _ _ _
 have P:G<=maxLen:=by rw[hG];exact grownCap_le_maxLen w (l.length+1) l.length 92 (by unfold maxLen;omega)
 have hG63:G<=9223372036854775807:=by unfold maxLen at P;omega
 obtain⟨b,m⟩:∃b:Array Value,b=(S.take (i*3)).toArray++Builtin.zeroCells Z.cells (l.length+1-i)++Builtin.zeroCells Z.cells (G-(l.length+1)):=⟨_,rfl⟩;rw[<-m] at L;have T:b.size=G*3:=by
  have O:b.toList.length=G*3:=by rw[m];simp only[Array.toList_append,kqu,jO,n,d];omega
  simpa using O
 have R:b.toList.take ((l.length+1)*3)=S.take (i*3)++(Builtin.zeroCells Z.cells (l.length+1-i)).toList:=by rw[m];simp only[Array.toList_append];rw[kxp (by simp only[kqu,jO,n,d];omega),kza (by simp only[kqu,jO,n,d];omega)]
 obtain⟨p,c⟩:∃p,p=w.drew.alloc (.cells b 92):=⟨_,rfl⟩;have t:∀W:World,W.heap=p.heap->W.ownsRow H 92 3 (.slice (some ⟨w.heap.size,0,none⟩) (l.length+1) G) (l.length+1) (S.take (i*3)++(Builtin.zeroCells Z.cells (l.length+1-i)).toList):=λW r=>by
  refine⟨by simp only[kqu,jO,n,d];omega,Or.inr ⟨w.heap.size,G,b,rfl,hH,?_,Kc,P,T,R⟩⟩;rw[r,c];show (w.heap.push (Obj.cells b 92 (0,0)))[w.heap.size]? = _;simp
 have hN:∀j,j<(l.length+1)*3->(p.cell? ⟨w.heap.size,j,none⟩).isSome=true:=λj e=>by
  rw[c,World.cell?_alloc_at (w:=w.drew) b _ w.heap.size j rfl,kx7 (by omega)];rfl
 have Q:∀j,p.frozen? ⟨w.heap.size,j,none⟩=false:=λj=>by rw[c];exact World.frozen?_alloc_at (w:=w.drew) b _ w.heap.size j rfl
 have Kd:∀j v,w.cell? ⟨g,j,none⟩=some v->p.cell? ⟨g,j,none⟩=some v:=λj v h=>by rw[c,World.cell?_alloc_past (w:=w.drew) _ g j Kh];exact h
 have Ke:∀j v,w.cell? ⟨D,j,none⟩=some v->p.cell? ⟨D,j,none⟩=some v:=λj v h=>by rw[c,World.cell?_alloc_past (w:=w.drew) _ D j Ki];exact h
 have U:∀(W:World),(∀x,W.cell? x=p.cell? x)->(∀x,W.frozen? x=p.frozen? x)->∀u E,(Builtin.copy_ #[77,77] u #[.slice (some ⟨w.heap.size,i*3,none⟩) (l.length+1-i) E,.slice (some ⟨D,0,none⟩) 1 1]).run prog W=.ok (goInt 1) (W.setCells w.heap.size (i*3) x.cells):=λW r I u E =>
  gx W 77 77 u 92 3 1 w.heap.size (i*3) (l.length+1-i) E ⟨D,0,none⟩ 1 1 x.cells underlying77 (by kernel_rfl) (by simp only[Nat.min_def];split<;>omega) rfl
   (λj v e=>by
    rw[iO,kxg,r];exact Ke _ v ((z.cell j).trans (by simpa [Dw.cells] using e)))
   (λj e=>by rw[r];exact hN _ (by have:x.cells.length=3:=rfl;omega)) (λj e=>by rw[I];exact Q _) (λv z=>by
    simp only[Dw.cells,kq0,kzm,or_false] at z;rcases z with rfl|rfl|rfl<;>rfl)
 have Kf:g≠w.heap.size:=(by omega);have A:∀(W:World),(∀y,W.cell? y=(p.setCells w.heap.size (i*3) x.cells).cell? y)->(∀y,W.frozen? y=(p.setCells w.heap.size (i*3) x.cells).frozen? y)->∀u E sc,(Builtin.copy_ #[77,77] u #[.slice (some ⟨w.heap.size,(i+1)*3,none⟩) (l.length-i) E,.slice (some ⟨g,i*3,none⟩) (l.length-i) sc]).run prog W=.ok (goInt ((l.length-i:Nat):Int)) (W.setCells w.heap.size ((i+1)*3) (S.drop (i*3))):=λW r I u E sc =>
  gx W 77 77 u 92 3 (l.length-i) w.heap.size ((i+1)*3) (l.length-i) E ⟨g,i*3,none⟩ (l.length-i) sc (S.drop (i*3)) underlying77 (by kernel_rfl) (by simp only[Nat.min_def];split<;>omega) J
   (λj v e=>by
    rw[iO,r,kjb _ _ _ _ _ (λh _=>absurd h Kf)];exact Kd _ v (q (i*3+j) v (by rwa [kjh] at e)))
   (λj e=>by rw[r];exact World.isSome_setCells _ _ _ _ _ (hN _ (by omega)))
   (λj e=>by rw[I,World.frozen?_setCells];exact Q _) (λv z=>s v (kxt z))
 have e:Hid (((((w.alloc (.cells b 92)).drew.setCells w.heap.size (i*3) x.cells).drew).setCells w.heap.size ((i+1)*3) (S.drop (i*3))).ownsRow H 92 3 (.slice (some ⟨w.heap.size,0,none⟩) (l.length+1) G) (l.length+1) ((l.take i++x::l.drop i).flatMap Dw.cells)):=y5 (by
  have j:=dC x.cells (i*3) _ _ (t (w.alloc (.cells b 92)).drew (by rw[c];rfl));have O:=dC (S.drop (i*3)) ((i+1)*3) _ _ (show (((w.alloc (.cells b 92)).drew.setCells w.heap.size (i*3) x.cells).drew).ownsRow H 92 3 _ _ _ from j);have h:(i+1)*3=i*3+3:=(by omega);rw[h,EF (o:=i*3) (k:=3) (V:=x.cells) rfl d rfl (by rw[jO,n,J];omega)] at O;rw[r7,F,h];exact O)
 have u:Hid (w.grownBy ((((w.alloc (.cells b 92)).drew.setCells w.heap.size (i*3) x.cells).drew).setCells w.heap.size ((i+1)*3) (S.drop (i*3))) (some g)):=y5 (eB (bt (kqa _) _ (Below.drew (bt (kqa _) _ (Below.drew (Below.alloc (kqe _ w) (kqa _) _))))));rw[<-c] at L;subst c;have c:∀x,((w.alloc (.cells b 92)).drew).cell? x=(w.drew.alloc (.cells b 92)).cell? x:=λx=>rfl;have h:∀x,((w.alloc (.cells b 92)).drew).frozen? x=(w.drew.alloc (.cells b 92)).frozen? x:=λx=>rfl;have j:∀y,(((w.alloc (.cells b 92)).drew.setCells w.heap.size (i*3) x.cells).drew).cell? y=((w.drew.alloc (.cells b 92)).setCells w.heap.size (i*3) x.cells).cell? y:=λy=>rfl;have r:∀y,(((w.alloc (.cells b 92)).drew.setCells w.heap.size (i*3) x.cells).drew).frozen? y=((w.drew.alloc (.cells b 92)).setCells w.heap.size (i*3) x.cells).frozen? y:=λy=>rfl;have hz1:¬ ((i:Int)=(l.length:Int)):=(by omega);have hz3:(l.length:Int)<(l.length:Int)+1:=(by omega);have hGi:¬ (G=i):=(by omega);have hGim:¬ (G=i+1):=(by omega);have hci:¬ (l.length=i):=(by omega);have hin:i<=l.length:=(by omega);have hw1:IntKind.i64.wrap ((i:Int)+1)=(i:Int)+1:=by rw[IntKind.wrap_i64];omega
 have hw2:IntKind.i64.wrap ((l.length:Int)+1)=(l.length:Int)+1:=by rw[IntKind.wrap_i64];omega
 have hw3:IntKind.i64.wrap ((l.length:Int)+1-(i:Int))=(l.length:Int)+1-(i:Int):=by rw[IntKind.wrap_i64];omega
 have hb3:(i:Int)<=(l.length:Int):=(by omega);have hb5:(i:Int)+1<=(l.length:Int)+1:=(by omega);have hb1:(0:Int)<=(i:Int)+1:=(by omega);have htn:((i:Int)+1).toNat=i+1:=(by omega);have htm:((l.length:Int)+1).toNat=l.length+1:=(by omega);have mixed:prog.follows .mixedOrders=true:=by kernel_rfl
 clear C z Ka Kg X s q hS J F Eq K B m hG T R t n hZ M Kb N Y d;go_enter func228,ntmps228;go_wp2_with (first
  | ((with_reducible refine tG ?_);refine wpList_copy_runI _ rfl _ _ 77 77 rfl _ _ rfl rfl (U _ c h _ _) ?_)
  | ((with_reducible refine tG ?_);refine wpList_copy_runI _ rfl _ _ 77 77 rfl _ _ rfl rfl (A _ (λ_=>rfl) (λ_=>rfl) _ _ _) ?_)
  | (at_builtin;refine Lib.wpList_append_run _ rfl _ _ _ _ rfl _ _ rfl rfl _ _ (L _) ?_))
 go_region_law_o (refine step_copy_runI rfl _ _ 77 77 rfl (.slice (some ⟨w.heap.size,(i+1)*3,none⟩) (l.length-i) (G-(i+1))) (.slice (some ⟨g,i*3,none⟩) (l.length-i) (l.length-i)) (by simp[Act.eval,Act.put]) (by simp[Act.eval,Act.put]) (A _ j r 3 (G-(i+1)) (l.length-i)) ?_)
 go_wp2;go_ret;exact⟨⟨_,_,rfl,e.out⟩,u.out⟩
theorem ins_c(j:Option Addr)(l:List Dw)(c i:Nat)(x:Dw)(d H:Nat)(w:World)(m:l.length<=1000000)(hi:i<=l.length)(k:H<=w.heap.size)(b:w.ownsRow H 92 3 (.slice j l.length c) l.length (l.flatMap Dw.cells))(n:Bx w d 92 #[.int .i64 x.a,.int .u64 (x.v:Int),.bool x.f])(o:(Value.slice j l.length c).ownBlock≠some d):
 Calls prog 228 #[.slice j l.length c,.int .i64 (i:Int),.slice (some ⟨d,0,none⟩) 1 1] w λe g=>DU l i x H (Value.slice j l.length c).ownBlock w e g:=by
 by_cases q:i=l.length
 .subst q;exact Fs j l c x d H w m k b n
 have p:i<l.length:=(by omega);obtain⟨g,c9,e⟩:=fa b (by omega);injection e with h2 h3 h4;subst h2;subst h4;have r:d≠g:=λh=>o (by rw[h];rfl);by_cases h:l.length+1<=c
 .exact Jl g l c i x d H w m p h k b n r
 have hc:=d6 b;have:c=l.length:=(by omega);subst this;exact Bt g l i x d H w m p k b n
theorem Gt{H sz:Nat}{e:TypeId}{v:Value}{xs:List Value}(h:w.ownsRow H e sz v n xs):v.ownBlock≠some w.heap.size:=by
 rcases h.2 with⟨rfl,-⟩|⟨g,cap,cur,rfl,-,a,-⟩
 .intro h;cases h
 intro b;have c:g=w.heap.size:=by injection b
 subst c;simp at a
theorem Ar(l:List Dw)(i:Nat)(x:Dw)(b:i<l.length):s7 (l.flatMap Dw.cells) (i*3) x.cells=(l.set i x).flatMap Dw.cells:=by have c:=bU Dw.cells 3 Dw.len l;have a:x.cells.length=3:=rfl;rw[lX _ _ _ (by rw[c,a];omega),List.set_eq_take_append_cons_drop,if_pos b,kzv,kzz,ia Dw.cells 3 Dw.len,sM Dw.cells 3 Dw.len,a];rw[show (i+1)*3=i*3+3 by omega]
theorem Ak(A M:Option Addr)(im:List Nat)(dw:List Dw)(s:Int)(r:Bool)(n c m dc a v:Nat)(w:World)(j:im.length=n)(i:dw.length=m)(b:fg ⟨im,dw,s,r⟩=true)(ha:a<n)(_hv:v<18446744073709551616)(Kc:m<=1000000)(t:RdW w w.heap.size A im)(x:RdQ w w.heap.size M dw):
 Calls prog 180 #[.agg #[.slice A n c,.slice M m dc,.int .i64 s,.bool r],.int .i64 (a:Int),.int .u64 (v:Int)] w λe d=>(∃u,e=.returned (.tuple #[u,.int .i64 0])/\iE d w.heap.size (dvS ⟨im,dw,s,r⟩ (a:Int) v) u)/\Below w.heap.size w d:=by
 have K:=(cq _).1 b;have y:=(ae _).1 K.1;dsimp only at y;have G : -1<=s/\s<=1000000:=⟨K.2.1,K.2.2.1⟩;have d:=K.2.2.2.2;dsimp only at d;obtain⟨Ka,I⟩:=yq0 (inc_of d) (λW (h:RdQ W W.heap.size M dw)=>Ge A M im dw s r n c m dc (a:Int) W j i (by omega) (by omega) h);rw[Ci b (by omega) (by dsimp only;omega)] at I;have k:=y5 (λW (h:RdW W W.heap.size A im) (h2:RdQ W W.heap.size M dw)=>oy A M im dw s r n c m dc W j i (by omega) (by omega) (by omega) G h h2);unfold iE at k;rw[(o0 _).1,(o0 _).2] at k;dsimp only at k;rw[j,i] at k;obtain⟨HR,HQ⟩:=yq0 t x;obtain⟨W0,l,g,z,f,q⟩:=gP w A M s r n c m dc;obtain⟨O,X1,Eq,o,B⟩:=yq3 g z f j i;obtain⟨C,D,E,J,-,-,-,-,hg⟩:=g.c4;have Kh:w.heap.size<=W0.heap.size:=(by omega);have Kl:w.heap.size+1<W0.heap.size:=(by omega);have Kd:w.heap.size+1≠w.heap.size:=(by omega);have hn3:n<=2048:=(by omega);clear t x g z f q j i K y d b;go_enter func180,ntmps180;go_wp2_with fail;clear l;refine (I.out W0 (HQ.out.up Eq.out Kh)).mono ?_;rintro e w1 ⟨rfl,d⟩;have g:=O.out.up d hg;have f:=y5 (Eq.out.trans (d.mono Kh));have hz1:=d.size;obtain⟨y,z,F,H,-,-,-,-,l⟩:=g.c4;obtain⟨V,W⟩:=yq0 g (X1.out.up d Kl);have b:w.heap.size+1<w1.heap.size:=(by omega);clear g d C D E J;go_wp2_with fail;refine (k.out w1 (yq8 HR f) (yq8 HQ f)).mono ?_;rintro e w2 ⟨⟨_,rfl,D,E,t,q,rfl,Q,g,j⟩,d⟩;obtain⟨C,i,X,Y⟩:=yq2 g j (V.out.up d l) (W.out.up d b);have x:=yq7 f d;have P:=d.size;clear d g j y z F H;by_cases g:s=0
 .subst g;have HV:Hid (dvS ⟨im,dw,0,r⟩ (a:Int) v=⟨im,dw,0,true⟩):=y5 (by unfold dvS dvD;rw[if_pos rfl]);rw[rb rfl,show decide ((0:Int)≠0)=false from rfl];unfold dvD;dsimp only;go_wp2_with (first
   | ((with_reducible refine aj 79 (.tmp 3) _ ?_);refine stD X.out ?_;intro y J d)
   | ((with_reducible refine av 79 (.tmp 3) ?_);refine ldD J.out ?_)
   | ((with_reducible refine aj 79 (.tmp 6) _ ?_);refine stD (d.out.bx Y.out Kd) ?_;intro w9 z j))
  refine kqq (v:=.tuple #[.agg #[.slice D n E,.slice t m q,.int .i64 0,.bool true],.int .i64 0]) (aF results180 _ z.out rfl rfl rfl) rfl ⟨⟨_,rfl,by
   rw[HV.out];exact⟨D,E,t,q,by rw[o.out,B.out],by rw[o.out];exact Q,by rw[o.out];exact ab (ak (ak C.out d.out l) j.out b) f.out.size,by rw[B.out];exact ab (ak (ak i.out d.out l) j.out b) f.out.size⟩⟩,j.out.below (d.out.below x.out (kqa _)) (by omega)⟩
 have L:decide (s≠0)=true:=by rw[kqh];exact g
 have HV:Hid (dvS ⟨im,dw,s,r⟩ (a:Int) v=⟨im,stQ dw (a:Int) v,dec s,r⟩):=y5 (by unfold dvS;rw[if_neg g]);have H:dvB ⟨im,dw,s,r⟩=⟨im,dw,dec s,r⟩:=by unfold dvB;rw[if_neg g]
 rw[L,H];dsimp only;obtain⟨Z,F⟩:=xq (dec s);rw[F] at HV |-;subst B;clear F H L g G;go_wp2_with (first
  | (((with_reducible refine aj 79 (.tmp 3) _ ?_);refine stD X.out ?_;intro y J d);obtain⟨s0,s1,s2,s3,B,F,G,H,T⟩:=J.out.c4)
  | ((with_reducible refine av 79 (.tmp 3) ?_);refine ldD J.out ?_))
 have Kj:w.heap.size<y.heap.size:=J.out.lt;have Kg:w.heap.size+1<y.heap.size:=by have:=d.out.1;omega
 obtain⟨U,V0,V1,VO,S,Kb,R⟩:=yq5 (Bx.new y 92 #[.int .i64 (a:Int),.int .u64 (v:Int),.bool false]) (J.out.alloc (.cells #[.int .i64 (a:Int),.int .u64 (v:Int),.bool false] 92)) ((d.out.bx Y.out Kd).alloc (.cells #[.int .i64 (a:Int),.int .u64 (v:Int),.bool false] 92)) ((ak C.out d.out l).alloc (.cells #[.int .i64 (a:Int),.int .u64 (v:Int),.bool false] 92)) ((ak i.out d.out l).alloc (.cells #[.int .i64 (a:Int),.int .u64 (v:Int),.bool false] 92)) (Gt (ak i.out d.out l)) ((d.out.below x.out (kqa _)).alloc (by omega) (.cells #[.int .i64 (a:Int),.int .u64 (v:Int),.bool false] 92));have L:(y.alloc (.cells #[.int .i64 (a:Int),.int .u64 (v:Int),.bool false] 92)).heap.size=y.heap.size+1:=kqm _ _;have Kf:w1.heap.size<=y.heap.size:=by have:=d.out.1;omega
 obtain⟨b3,g⟩:=xq y.heap.size;obtain⟨w4,N⟩:∃w4,y.alloc (.cells #[.int .i64 (a:Int),.int .u64 (v:Int),.bool false] 92)=w4:=⟨_,rfl⟩;rw[g] at U Kb L Kj Kg Kf |-;rw[N] at U V0 V1 VO S R L |-;clear N C i x X Y d P s0 s1 s2 s3 B F G H T J g;refine (Fg D t dw Z r n E dw.length q (a:Int) w4 rfl Kc Ka.out (Rd.of_own S.out)).mono ?_;rintro e C ⟨⟨i,rfl,N⟩,g⟩;obtain⟨O,X1,XD,XO,P⟩:=yq3 (V0.out.up g (by omega)) (V1.out.up g (by omega)) (U.out.up g (by omega)) (ag VO.out g (kqa _)) (ag S.out g (kqa _));have XB:=yq7 R g;have hz5:=g.size;have Ki:i<=dw.length:=N.1;have x:=y5 (stQ_at (v:=v) N);clear g V0 V1 U VO S R N HR HQ I k;obtain⟨s0,s1,s2,s3,B,F,G,H,T⟩:=O.out.c4;cases R:vK dw (a:Int) i
 .rw[R] at x;have N:=y5 (show stQ dw (a:Int) v=dw.take i++⟨(a:Int),v,false⟩::dw.drop i by rw[x.out];simp);clear x R;go_wp2_with (first
   | ((with_reducible refine av 79 (.tmp 3) ?_);refine ldD O.out ?_)
   | ((with_reducible refine av 92 (.tmp 10) ?_);refine kz7 rfl _ _ rfl b3 (by rfl) 92 _ (0,0) _ XD.out underlying92 (by rfl) (by kernel_rfl) ?_))
  have Ke:(C.alloc (.cells #[.int .i64 (a:Int),.int .u64 (v:Int),.bool false] 92)).heap.size=C.heap.size+1:=kqm _ _;obtain⟨X,Y,ZO,ZQ,ZB,ZN,ZL⟩:=yq5 (O.out.alloc (.cells #[.int .i64 (a:Int),.int .u64 (v:Int),.bool false] 92)) (X1.out.alloc (.cells #[.int .i64 (a:Int),.int .u64 (v:Int),.bool false] 92)) (XO.out.alloc (.cells #[.int .i64 (a:Int),.int .u64 (v:Int),.bool false] 92)) (P.out.alloc (.cells #[.int .i64 (a:Int),.int .u64 (v:Int),.bool false] 92)) (XB.out.alloc (by omega) (.cells #[.int .i64 (a:Int),.int .u64 (v:Int),.bool false] 92)) (Bx.new C 92 #[.int .i64 (a:Int),.int .u64 (v:Int),.bool false]) (Gt P.out);obtain⟨U,y⟩:∃U,C.alloc (.cells #[.int .i64 (a:Int),.int .u64 (v:Int),.bool false] 92)=U:=⟨_,rfl⟩;rw[y] at X Y ZO ZQ ZB ZN Ke |-;clear y s0 s1 s2 s3 B F G H;refine (ins_c t dw q i ⟨(a:Int),v,false⟩ C.heap.size w1.heap.size U Kc Ki (by omega) ZQ.out ZN.out ZL.out).mono ?_;rintro e w7 ⟨⟨I,J,rfl,S⟩,d⟩;have g:∀k,k<w1.heap.size->some k≠(Value.slice t dw.length q).ownBlock:=λk K=>bI ZQ.out K;have Kk:=d.size;have y0:Bx w7 w.heap.size _ _:=(d.block w.heap.size (by omega) (by first|exact g _ l|exact (g _ l).symm)).trans X.out
  have y1:Bx w7 (w.heap.size+1) _ _:=(d.block (w.heap.size+1) (by omega) (by first|exact g _ b|exact (g _ b).symm)).trans Y.out;have yb:Below w.heap.size w w7:=ZB.out.trans ⟨d.os,d.tape,d.output,d.size,λk K=>d.block k (by omega) (by first|exact g _ (by omega) | exact (g _ (by omega)).symm)⟩;have k:=cd ZO.out d (gR ZO.out ZQ.out (by decide));obtain⟨V,W,YO,YQ,YB⟩:=yq3 (show Bx (w7.setCell ⟨w.heap.size,1,none⟩ (.slice I (dw.length+1) J)) w.heap.size 79 #[.slice D n E,.slice I (dw.length+1) J,.int .i64 Z,.bool r] from y0.set_ 1 _) (y1.far (p:=⟨w.heap.size,1,none⟩) (show w.heap.size+1≠w.heap.size by omega) (.slice I (dw.length+1) J)) (ar k (p:=⟨w.heap.size,1,none⟩) (bI k l).symm (.slice I (dw.length+1) J)) (ar S (p:=⟨w.heap.size,1,none⟩) (bI S l).symm (.slice I (dw.length+1) J)) (yb.setCell (p:=⟨w.heap.size,1,none⟩) (kqa _) (.slice I (dw.length+1) J));obtain⟨s0,s1,s2,s3,B,F,G,H,T⟩:=y0.c4;clear d S y0 y1 yb k g Kk;go_wp2_with (first
   | ((with_reducible refine av 79 (.tmp 3) ?_);refine ldD V.out ?_)
   | ((with_reducible refine aj 79 (.tmp 6) _ ?_);refine stD W.out ?_;intro w9 z j))
  refine kqq (v:=.tuple #[.agg #[.slice D n E,.slice I (dw.length+1) J,.int .i64 Z,.bool r],.int .i64 0]) (aF results180 _ z.out rfl rfl rfl) rfl ⟨⟨_,rfl,by
   have d:(dw.take i++(⟨(a:Int),v,false⟩:Dw)::dw.drop i).length=dw.length+1:=by rw[kqu,kq4,kq6,kz2];omega
   rw[HV.out,N.out];unfold iE;dsimp only;rw[d];exact⟨D,E,I,J,by rw[o.out],by rw[o.out];exact Q,by rw[o.out];exact ab (ak YO.out j.out b) f.out.size,ab (ak YQ.out j.out b) f.out.size⟩⟩,j.out.below YB.out (by omega)⟩
 rw[R] at x;have H:i<dw.length:=by
  rcases kq8 i dw.length with h|h
  .exact h
  unfold vK at R;rw[kzj h] at R;cases R
 have N:=y5 (show stQ dw (a:Int) v=dw.set i ⟨(a:Int),v,false⟩ by rw[x.out,if_pos rfl]);clear x R;obtain⟨g,R,x⟩:=fa P.out (by omega);obtain⟨rfl,-,rfl⟩:t=some ⟨g,0,none⟩/\dw.length=dw.length/\q=R:=by injection x with h1 h2 h3;exact⟨h1,h2,h3⟩
 have hgb:w1.heap.size<=g:=gH P.out;have hki:(i:Int)<(dw.length:Int):=(by omega);have hk0:(0:Int)<=(i:Int):=(by omega);have G:C.there g (i*3) (#[.int .i64 (a:Int),.int .u64 (v:Int),.bool false]:Array Value).size:=jC P.out (i*3) 3 (by omega);have F:(prog.info? 92).map (·.size)=some (#[.int .i64 (a:Int),.int .u64 (v:Int),.bool false]:Array Value).size:=by kernel_rfl
 have k:(#[.int .i64 (a:Int),.int .u64 (v:Int),.bool false]:Array Value).all (·.oneCell')=true:=by simp[Value.oneCell']
 have J:=dC (Dw.cells ⟨(a:Int),v,false⟩) (i*3) C _ P.out;rw[Ar dw i _ H] at J;have YQ:=y5 J;have e:Hid (fT C (C.setCells g (i*3) (Dw.cells ⟨(a:Int),v,false⟩)) g):=y5 ⟨cY _ _ _,λg' d=>dW d _ _ _,λB d=>bt d _ (kqe _ _)⟩;obtain⟨YO,V,W,YB⟩:=yq2 (cd XO.out e.out.grown (show (Value.slice D n E).ownBlock=none\/(Value.slice D n E).ownBlock≠some g from gR XO.out P.out (by decide))) (e.out.bx O.out (show w.heap.size≠g by omega)) (e.out.bx X1.out (show w.heap.size+1≠g by omega)) (e.out.below XB.out (show w.heap.size<=g by omega));obtain⟨B,d⟩:∃B:Array Value,#[.int .i64 (a:Int),.int .u64 (v:Int),.bool false]=B:=⟨_,rfl⟩;obtain⟨U,y⟩:∃U,C.setCells g (i*3) (Dw.cells ⟨(a:Int),v,false⟩)=U:=⟨_,rfl⟩;have I:C.setCells g (i*3) B.toList=U:=by rw[<-d];exact y
 rw[y] at YQ e YO V W YB;rw[d] at G F k;clear y J x Kb;go_wp2_with (first
  | ((with_reducible refine av 79 (.tmp 3) ?_);refine ldD O.out ?_)
  | ((with_reducible refine av 79 (.tmp 3) ?_);refine ldD V.out ?_)
  | ((with_reducible refine av 92 (.tmp 10) ?_);refine kz7 rfl _ _ rfl b3 (by rfl) 92 _ (0,0) _ XD.out underlying92 (by rfl) (by kernel_rfl) ?_)
  | ((with_reducible refine aj 92 (.tmp 42) _ ?_);refine kjr rfl _ _ _ rfl g (i*3) B (by rfl) (by rw[<-d];rfl) G F k ?_;rw[I])
  | ((with_reducible refine aj 79 (.tmp 6) _ ?_);refine stD W.out ?_;intro w9 z j))
 refine kqq (v:=.tuple #[.agg #[.slice D n E,.slice (some ⟨g,0,none⟩) dw.length q,.int .i64 Z,.bool r],.int .i64 0]) (aF results180 _ z.out rfl rfl rfl) rfl ⟨⟨_,rfl,by
  rw[HV.out,N.out];exact⟨D,E,some ⟨g,0,none⟩,q,by rw[kq5,o.out],by rw[o.out];exact Q,by rw[o.out];exact ab (ak YO.out j.out b) f.out.size,by rw[kq5];exact ab (ak YQ.out j.out b) f.out.size⟩⟩,j.out.below YB.out (by omega)⟩
end Go.Proofs.YtpcajamacpbjcaaGreat
