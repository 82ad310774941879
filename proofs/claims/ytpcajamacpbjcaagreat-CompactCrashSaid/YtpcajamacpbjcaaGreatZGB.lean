/- Devices: what the program returns (where a dirty word is, or would be). -/
import Derived.Test.YtpcajamacpbjcaaGreatZGA
import Derived.Test.YtpcajamacpbjcaaGreatZKWnt
import Derived.Shelf.Spec.SlicesInsertGrow
import Derived.Test.YtpcajamacpbjcaaGreatZKCo
set_option maxHeartbeats 16000000
set_option maxRecDepth 100000
set_option linter.all false
namespace Go.Proofs.YtpcajamacpbjcaaGreat
open Lib (hid)
open Go.RowKit
variable {R V X:List Value}{k n o:Nat}{w w':World}
open Go.Proofs.Tryz
def qA (x y:Int):Int:=if x<y then -1 else if y<x then 1 else 0
theorem lD(x:Int)(w:World):Calls prog 289 #[.int .i64 x] w λe w'=>e=.returned (.bool false)/\w=w':=by go_enter func289,ntmps289;go_wp2;go_ret;exact⟨by simp,rfl⟩
theorem Dm(x y:Int)(w:World):Calls prog 268 #[.int .i64 x,.int .i64 y] w λe w'=>e=.returned (.int .i64 (qA x y))/\w=w':=by
 by_cases c:x<y
 .have b:Hid (qA x y = -1):=hid (by unfold qA;rw[if_pos c]);go_enter func268,ntmps268;go_wp2_with fail;refine (lD x w).mono ?_;rintro e a ⟨rfl,rfl⟩;go_wp2_with fail;refine (lD y w).mono ?_;rintro e a ⟨rfl,rfl⟩;go_wp2;go_ret;exact⟨by rw[b.out];rfl,rfl⟩
 by_cases d:y<x
 .have b:Hid (qA x y=1):=hid (by unfold qA;rw[if_neg c,if_pos d]);go_enter func268,ntmps268;go_wp2_with fail;refine (lD x w).mono ?_;rintro e a ⟨rfl,rfl⟩;go_wp2_with fail;refine (lD y w).mono ?_;rintro e a ⟨rfl,rfl⟩;go_wp2;go_ret;exact⟨by rw[b.out];rfl,rfl⟩
 have b:Hid (qA x y=0):=hid (by unfold qA;rw[if_neg c,if_neg d]);go_enter func268,ntmps268;go_wp2_with fail;refine (lD x w).mono ?_;rintro e a ⟨rfl,rfl⟩;go_wp2_with fail;refine (lD y w).mono ?_;rintro e a ⟨rfl,rfl⟩;go_wp2;go_ret;exact⟨by rw[b.out];rfl,rfl⟩
theorem Ig(x a:Int)(v:Nat)(f:Bool)(w:World):Calls prog 267 #[.agg #[.int .i64 x,.int .u64 (v:Int),.bool f],.int .i64 a] w λe w'=>e=.returned (.int .i64 (qA x a))/\Below w.heap.size w w':=by have b:=hid (λW=>Dm x a W);have d:=hid ((kql w.heap.size w).alloc (kqd _) (.cells #[.int .i64 x,.int .u64 (v:Int),.bool f] 92));obtain⟨q,c⟩:=xq (qA x a);rw[c] at b |-;clear c;go_enter func267,ntmps267;go_wp2_with fail;refine (b.out _).mono ?_;rintro e w1 ⟨rfl,rfl⟩;go_wp2;go_ret;exact⟨rfl,d.out⟩
def Eg (l:List Dw) (a:Int) (i:Nat):Prop:=i<=l.length/\(∀k (h:k<l.length),k<i->l[k].a<a)/\∀k (h:k<l.length),i<=k->a<=l[k].a
def t6 (l:List Dw) (a:Int) (i:Nat):Bool:=match l[i]? with | some e=>e.a==a | none=>false
def FZ (l:List Dw) (a:Int) (e:Ending):Prop:=∃i:Nat,e=.returned (.tuple #[.int .i64 (i:Int),.bool (t6 l a i)])/\Eg l a i
theorem inc_of :∀ {l:List Dw} {b:Int},iu n l b=true->l.Pairwise (λx y=>x.a<y.a):=by
 intro l
 induction l with
 | nil=>intro b _;exact List.Pairwise.nil
 | cons e l ih =>intro b h;simp only[iu,kqt,kzc] at h;exact List.Pairwise.cons (λx c=>(fL h.2.2 x c).1) (ih h.2.2)
theorem sw(A:Option Addr)(l:List Dw)(c n:Nat)(a:Int)(w:World)(hn:l.length=n)(hm:n<=1000000)(hinc:l.Pairwise (λx y=>x.a<y.a))(hr:RdQ w w.heap.size A l):
 Calls prog 266 #[.slice A n c,.int .i64 a,.func (.func 267) #[] #[]] w λe w'=>FZ l a e/\Below w.heap.size w w':=by
 subst hn;have HR:=hid hr;have HI:=hid (kzj.1 hinc);have S:=hid (λx v f W=>Ig x a v f W);clear hr hinc;go_enter func266,ntmps266;go_wp2_with fail;go_loopw [9,10] (λi j wr=>∃p q:Nat,p<=q/\q<=l.length/\i=.int .i64 p/\j=.int .i64 q/\Hid (∀k (h:k<l.length),k<p->l[k].a<a)/\Hid (∀k (h:k<l.length),q<=k->a<=l[k].a)/\Below w.heap.size w wr) (λi j _=>(RowKit.intOf j).toNat-(RowKit.intOf i).toNat)
 case atStart=>exact⟨0,l.length,kqy _,kqd _,rfl,rfl,hid λk h h2=>by omega,hid λk h h2=>by omega,kql _ _⟩
 obtain⟨p,q,hpq,P,rfl,rfl,HL,HU,B⟩:=hrel;have hz:=B.size;by_cases hlt:p<q
 .have T:(p+q)/2<l.length:=by omega
  obtain⟨h,Q⟩:=xq ((p+q)/2);rw[Q] at T;have hph:p<=h:=by omega
  have hhq:h<q:=by omega
  have i1:IntKind.u64.wrap ((p:Int)+(q:Int))=((p+q:Nat):Int):=by rw[kzt _ (by omega)];omega
  have i2:((p+q:Nat):Int)/2=(h:Int):=by omega
  have i3:((p:Int)+(q:Int))/2=(h:Int):=by omega
  obtain⟨b,o,rfl,U,M,K,N⟩:=RdQ.at_ (show RdQ wr w.heap.size A l from HR.out.below B) T;have s:=hid (S.out l[h].a l[h].v l[h].f wr);have Z:=hid (λk (g:k<l.length) (z:k<h)=>HI.out k h g T z);have HY:=hid (λk (g:k<l.length) (z:h<k)=>HI.out h k T g z);obtain⟨x,E⟩:=xq (l[h]);have F:=hid (show ∀k (g:k<l.length),k=h->l[k].a=x.a from λk g e=>by subst e;rw[E]);rw[E] at M K N s;simp only[E] at Z HY;obtain⟨G,xv,xf⟩:=x;dsimp only at M K N s Z HY F;have J:(h:Int)<(l.length:Int):=by omega
  have Y:(0:Int)<=(h:Int):=by omega
  clear E Q;by_cases D:G<a
  .have r:qA G a = -1:=by unfold qA;rw[if_pos D]
   rw[r] at s;have V:Hid (∀k (g:k<l.length),k<h+1->l[k].a<a):=hid λk g z=>by
    rcases kq6 k h with L|L
    .have:=Z.out k g L;omega
    have:=F.out k g (by omega);omega
   have I:=hid B;clear r D B;go_wp2_with fail;refine s.out.mono ?_;rintro e w5 ⟨rfl,d⟩;have t:=hid (I.out.trans (d.mono hz));clear d;go_wp2;go_roundw
   case rel=>exact⟨h+1,q,by omega,P,by go_num,rfl,V,HU,t.out⟩
   case measure=>simp[RowKit.intOf];omega
  have r:0<=qA G a:=by unfold qA;rw[if_neg D];split<;>omega
  obtain⟨H,u⟩:=xq (qA G a);rw[u] at s r;have X:Hid (∀k (g:k<l.length),h<=k->a<=l[k].a):=hid λk g z=>by
   rcases kq6 h k with L|L
   .have:=HY.out k g L;omega
   have:=F.out k g (by omega);omega
  have hd:decide (H<0)=false:=by rw[kqh];omega
  have I:=hid B;clear u D B r;go_wp2_with fail;refine s.out.mono ?_;rintro e w5 ⟨rfl,d⟩;have t:=hid (I.out.trans (d.mono hz));clear d;go_wp2;go_roundw
  case rel=>exact⟨p,h,by omega,by omega,rfl,by go_num,HL,X,t.out⟩
  case measure=>simp[RowKit.intOf];omega
 obtain rfl:p=q:=by omega
 have HF:=hid (show Eg l a p from ⟨P,HL.out,HU.out⟩);have I:=hid B;have hend:decide ((p:Int)<(p:Int))=false:=by rw[kqh];omega
 by_cases C:p<l.length
 .obtain ⟨b,o,rfl,U,M,K,N⟩:=RdQ.at_ (show RdQ wr w.heap.size A l from HR.out.below B) C;have s:=hid (S.out l[p].a l[p].v l[p].f wr);have m:t6 l a p=(l[p].a==a):=by unfold t6;rw[kqk C]
  obtain⟨x,E⟩:=xq (l[p]);rw[E] at M K N s m;obtain⟨G,xv,xf⟩:=x;dsimp only at M K N s m;have O:(qA G a==0)=t6 l a p:=by
   rw[m,kzg,kqw,kqw];unfold qA;split
   .omega
   split<;>omega
  have R:=hid O;obtain⟨H,u⟩:=xq (qA G a);rw[u] at s R;have J:(p:Int)<(l.length:Int):=by omega
  have Y:(0:Int)<=(p:Int):=by omega
  clear E m O u B;go_wp2_with fail;refine s.out.mono ?_;rintro e w5 ⟨rfl,d⟩;have t:=hid (I.out.trans (d.mono hz));clear d;go_wp2;go_ret2;exact⟨⟨p,by rw[<-R.out];rfl,HF.out⟩,t.out⟩
 have m:Hid (t6 l a p=false):=hid (by unfold t6;rw[kzb (by omega)]);have J:decide ((p:Int)<(l.length:Int))=false:=by rw[kqh];omega
 have hkn:decide (p<l.length)=false:=by rw[kqh];exact C
 clear C B;go_wp2;go_ret2;exact⟨⟨p,by rw[m.out];rfl,HF.out⟩,I.out⟩
theorem Er(A DA:Option Addr)(dw:List Dw)(lf:Int)(dn:Bool)(n c m dc:Nat)(a:Int)(w:World)(hm:dw.length=m)(hm2:m<=1000000)(hinc:dw.Pairwise (λx y=>x.a<y.a))(hr:RdQ w w.heap.size DA dw):
 Calls prog 227 #[.agg #[.slice A n c,.slice DA m dc,.int .i64 lf,.bool dn],.int .i64 a] w λe w'=>FZ dw a e/\Below w.heap.size w w':=by have f:=hid (λW (h:RdQ W W.heap.size DA dw)=>sw DA dw dc m a W hm hm2 hinc h);unfold FZ at f |-;have b:=hid ((kql w.heap.size w).alloc (kqd _) (.cells #[.slice A n c,.slice DA m dc,.int .i64 lf,.bool dn] 79));have k:=hid hr;clear hr hinc hm;go_enter func227,ntmps227;go_wp2_with fail;refine (f.out _ (k.out.up b.out b.out.size)).mono ?_;rintro e w1 ⟨⟨i,rfl,g⟩,d⟩;have j:=hid g;clear g;go_wp2;go_ret2;exact⟨⟨i,rfl,j.out⟩,b.out.trans (d.mono b.out.size)⟩
theorem stQ_at{a:Int}{v:Nat}:∀ {l:List Dw} {i:Nat},Eg l a i->stQ l a v=if t6 l a i=true then l.set i ⟨a,v,false⟩ else l.take i++⟨a,v,false⟩::l.drop i:=by
 intro l
 induction l with
 | nil =>
  intro i h;have:i=0:=by have:=h.1;simpa using this
  subst this;rfl
 | cons e l ih =>
  intro i h;cases i with
  | zero =>
   have g:=h.2.2 0 (by simp) (kqd _);simp only[kqc] at g;unfold stQ;rw[if_neg (by omega)];by_cases b:e.a=a
   .rw[if_pos b,if_pos (by unfold t6;simp[b])];rfl
   rw[if_neg b,if_neg (by unfold t6;simp[b])];rfl
  | succ i =>
   have f:=h.2.1 0 (by simp) (by omega);simp only[kqc] at f;have j:Eg l a i:=by
    refine⟨by have:=h.1;simpa using this,λk d c=>?_,λk d c=>?_⟩
    .have:=h.2.1 (k+1) (by simpa using d) (by omega)
     simpa using this
    have:=h.2.2 (k+1) (by simpa using d) (by omega)
    simpa using this
   have m:t6 (e::l) a (i+1)=t6 l a i:=by unfold t6;simp
   unfold stQ;rw[if_pos f,ih j,m];split<;>rfl
theorem fO{P:Program}(w:World)(dT sT ty elem:TypeId)(sz k b o dLen dCap:Nat)(a:Addr)(sLen sCap:Nat)(cs:List Value)(hu:P.underlying dT=some (.slice elem))(hs:(P.info? elem).map (·.size)=some sz)(hk:Nat.min sLen dLen=k)(hn:cs.length=k*sz)(hsrc:∀j v,cs[j]? = some v->w.cell? (a.add j)=some v)(hc:∀j,j<cs.length->(w.cell? ⟨b,o+j,none⟩).isSome=true)(hf:∀j,j<cs.length->w.frozen? ⟨b,o+j,none⟩=false)(h1:∀v∈cs,v.oneCell'=true):
 (Builtin.copy_ #[dT,sT] ty #[.slice (some ⟨b,o,none⟩) dLen dCap,.slice (some a) sLen sCap]).run P w=.ok (goInt k) (w.setCells b o cs):=by
 have e:=run_loadCells_list (P:=P) w a cs hsrc;have d:=run_storeCells_cells (P:=P) b o cs 0 w (by simpa using hc) (by simpa using hf) h1;rw[hn] at e;cases c:P.info? elem with
 | none=>simp[c] at hs
 | some i =>
  have f:i.size=sz:=by simpa [c] using hs
  simp[Builtin.copy_,run_underlying hu,Builtin.lenOf,Builtin.firstCells,sizeOf,typeInfo,c,f,hk,e,d]
theorem lG:∀(vs xs:List Value) (o:Nat),o+vs.length<=xs.length->r7 xs o vs=xs.take o++(vs++xs.drop (o+vs.length)):=by
 intro vs
 induction vs with
 | nil=>intro xs o _;simp[r7]
 | cons v vs ih =>
  intro xs o h;rw[kq2] at h;show r7 (xs.set o v) (o+1) vs=_;rw[ih _ _ (by rw[kq4];omega)];have b:(xs.set o v).take (o+1)=xs.take o++[v]:=by rw[kqo (by rw[kq4];omega),kvk (kqd _)];simp
  have a:(xs.set o v).drop (o+1+vs.length)=xs.drop (o+(vs.length+1)):=by rw[kvl (by omega)];congr 1;omega
  rw[b,a,kxr];rfl
theorem EA{S:List Value}(hx:X=S++R)(ho:o<=S.length)(hV:V.length=k)(hR:R.length=k):r7 (r7 X (o+k) (S.drop o)) o V=S.take o++(V++S.drop o):=by subst hx;have a:(S.drop o).length=S.length-o:=kzk;rw[lG (S.drop o) (S++R) (o+k) (by rw[kqu,a,hR];omega)];have b:(S++R).drop (o+k+(S.drop o).length)=[]:=kjf (by rw[kqu,a,hR];omega);rw[b,kzs,lG _ _ _ (by rw[kqu,kq3,kqu,a,hV,hR];omega)];rw[kz9 (by rw[kq3,kqu,hR];omega),kka,kxc (by omega),kz9 ho];congr 2;rw[kk9,kjf (by rw[kq3,kqu,hR,hV];omega),kz2,kq3,kqu,hR,hV,kxc (by omega),kvm];rfl
theorem rL(l:List Dw)(i:Nat)(x:Dw):(l.take i++x::l.drop i).flatMap Dw.cells=(l.flatMap Dw.cells).take (i*3)++(x.cells++(l.flatMap Dw.cells).drop (i*3)):=by rw[kxi,kzy,gU Dw.cells 3 Dw.len,rM Dw.cells 3 Dw.len]
theorem dI{r:Option Nat}(h:Below w.heap.size w w'):w.grownBy w' r:=⟨h.os,h.tape,h.output,h.size,λk a _=>h.block k a⟩
theorem eB{g:Nat}{vs:List Value}(h:w.grownBy w' (some g)):w.grownBy (w'.setCells g o vs) (some g):=by have b:=aU (B:=0) (kqy g) vs (o:=o) (kql 0 w');refine⟨b.os.trans h.os,b.tape.trans h.tape,b.output.trans h.output,by rw[cV];exact h.size,λk c a=>?_⟩;rw[dr (λe=>a (by rw[e]))];exact h.block k c a
open Go.RowKit Go.Lib
def Da (l:List Dw) (i:Nat) (x:Dw) (H:Nat) (r:Option Nat) (w:World) (e:Ending) (w':World):Prop:=(∃A c,e=.returned (.slice A (l.length+1) c)/\w'.ownsRow H 92 3 (.slice A (l.length+1) c) (l.length+1) ((l.take i++x::l.drop i).flatMap Dw.cells))/\w.grownBy w' r
theorem CZ(DA:Option Addr)(l:List Dw)(dc:Nat)(x:Dw)(vb H:Nat)(w:World)(hm:l.length<=1000000)(hH:H<=w.heap.size)(hown:w.ownsRow H 92 3 (.slice DA l.length dc) l.length (l.flatMap Dw.cells))(hv:Bx w vb 92 #[.int .i64 x.a,.int .u64 (x.v:Int),.bool x.f]):
 Calls prog 228 #[.slice DA l.length dc,.int .i64 (l.length:Int),.slice (some ⟨vb,0,none⟩) 1 1] w λe w'=>Da l l.length x H (Value.slice DA l.length dc).ownBlock w e w':=by
 have p:=aZ hown;have C:=hid hown;have t:Hid (∀j u,([.int .i64 x.a,.int .u64 (x.v:Int),.bool x.f]:List Value)[j]? = some u->w.cell? ((⟨vb,0,none⟩:Addr).add j)=some u):=hid λj u E=>by
  rw[gh,kxa,hv.cell j]
  simpa using E
 have z:Hid ((l.take l.length++x::l.drop l.length).flatMap Dw.cells=l.flatMap Dw.cells++[.int .i64 x.a,.int .u64 (x.v:Int),.bool x.f]):=hid (by rw[kzn,kj9,kxi];rfl);obtain⟨A,B,i,o,q⟩:=kzv yH;have y:=hid B;have k:=hid i;have n:=hid o;have m:=hid q;clear B i o q;by_cases s:dc=l.length
 .subst s;clear hown hv p;go_enter func228,ntmps228;go_wp2_with (at_builtin;refine kzd _ rfl _ _ 77 rfl H 92 A _ 3 24 underlying77 y.out k.out n.out m.out rfl (by decide) _ _ _ rfl C.out ⟨vb,0,none⟩ 1 1 [.int .i64 x.a,.int .u64 (x.v:Int),.bool x.f] rfl rfl t.out (by simp[Value.oneCell']) (by unfold maxLen;omega) (by omega) hH ?_;intro v1 D b c _;obtain⟨r,d,rfl⟩:=aJ b;have g:=hid b;have h:=hid c;clear b c);go_ret;exact⟨⟨r,d,rfl,by rw[z.out];exact g.out⟩,h.out⟩
 clear hown hv;go_enter func228,ntmps228;go_wp2_with (at_builtin;refine kzd _ rfl _ _ 77 rfl H 92 A _ 3 24 underlying77 y.out k.out n.out m.out rfl (by decide) _ _ _ rfl C.out ⟨vb,0,none⟩ 1 1 [.int .i64 x.a,.int .u64 (x.v:Int),.bool x.f] rfl rfl t.out (by simp[Value.oneCell']) (by unfold maxLen;omega) (by omega) hH ?_;intro v1 D b c _;obtain⟨r,d,rfl⟩:=aJ b;have g:=hid b;have h:=hid c;clear b c);go_ret;exact⟨⟨r,d,rfl,by rw[z.out];exact g.out⟩,h.out⟩
theorem Fv(g:Nat)(l:List Dw)(b i:Nat)(x:Dw)(vb H:Nat)(w:World)(hm:l.length<=1000000)(hi:i<l.length)(hroom:l.length+1<=b)(_hH:H<=w.heap.size)(hown:w.ownsRow H 92 3 (.slice (some ⟨g,0,none⟩) l.length b) l.length (l.flatMap Dw.cells))(n:Bx w vb 92 #[.int .i64 x.a,.int .u64 (x.v:Int),.bool x.f])(hvb:vb≠g):
 Calls prog 228 #[.slice (some ⟨g,0,none⟩) l.length b,.int .i64 (i:Int),.slice (some ⟨vb,0,none⟩) 1 1] w λe w'=>Da l i x H (some g) w e w':=by
 obtain⟨t,r,Eq,hle,F,I,G⟩:=ns hown;have hS:(l.flatMap Dw.cells).length=l.length*3:=cj Dw.cells 3 Dw.len l;have hc63:b<=9223372036854775807:=by unfold maxLen at F;exact F
 have U:∀o lb R,(callFunc 269 #[.slice (some ⟨vb,0,none⟩) 1 1,.slice (some ⟨g,o,none⟩) lb R]).run prog w=.ok (.value (.bool false)) w:=λo lb R=>by
  rw[run_callFunc_extern func269 (by kernel_rfl) (by kernel_rfl) (by kernel_rfl) (e:=Extern.SlicesOverlaps.overlaps #[77,77] #[4]) (by kernel_rfl),
   Lib.run_overlaps_apart w 77 4 92 underlying77 3 (λw=>by kernel_rfl) ⟨vb,0,none⟩ ⟨g,o,none⟩ 1 1 lb R hvb 92 92 3 (b*3) (by simp[World.shape?,show w.heap[vb]? = _ from n]) (by simp[World.shape?,r,I]) (by omega) (by rw[n.frozen]) (by rw[n.frozen])]
  rfl
 have p:∀j v,t[j]? = some v->w.cell? ⟨g,j,none⟩=some v:=λj v c=>by
  simp[World.cell?,r,c]
 have d:∀j,j<b*3->(w.cell? ⟨g,j,none⟩).isSome=true:=λj c=>by
  rw[p j (t[j]'(by omega)) (kqk _)];rfl
 have D:∀j,w.frozen? ⟨g,j,none⟩=false:=λj=>by
  simp[World.frozen?,r]
 have u:∀v∈l.flatMap Dw.cells,v.oneCell'=true:=λv n=>by
  obtain⟨y,-,hy⟩:=kk8.1 n;simp only[Dw.cells,kqx,kzf,or_false] at hy;rcases hy with rfl|rfl|rfl<;>rfl
 have B:∀j v,(l.flatMap Dw.cells)[j]? = some v->w.cell? ⟨g,j,none⟩=some v:=λj v c=>by
  apply p;rw[<-G] at c;have:=kkw (l:=t) (i:=l.length*3) (j:=j);rw[this] at c;split at c
  .exact c
  cases c
 obtain⟨S,z⟩:=xq (l.flatMap Dw.cells);obtain⟨X,Q⟩:=xq (t.take ((l.length+1)*3));have q:w.drew.ownsRow H 92 3 (.slice (some ⟨g,0,none⟩) (l.length+1) b) (l.length+1) X:=by
  refine⟨by rw[<-Q,kq3];omega,Or.inr ⟨g,b,t.toArray,rfl,Eq,r,hroom,F,by simpa using I,?_⟩⟩
  simpa using Q
 have N:X=S++X.drop (l.length*3):=by
  have K:X.take (l.length*3)=S:=by rw[<-Q,kka,kxc (by omega),<-z];exact G
  rw[<-K,kxg]
 have P:(X.drop (l.length*3)).length=3:=by rw[kzk,<-Q,kq3];omega
 rw[z] at hS u B;have L:(S.drop (i*3)).length=(l.length-i)*3:=by rw[kzk,hS];omega
 have s:∀E b Y,(Builtin.copy_ #[77,77] E #[.slice (some ⟨g,(i+1)*3,none⟩) (l.length-i) b,.slice (some ⟨g,i*3,none⟩) (l.length+1-i) Y]).run prog w.drew=.ok (goInt ((l.length-i:Nat):Int)) (w.drew.setCells g ((i+1)*3) (S.drop (i*3))):=λE b Y =>
  fO w.drew 77 77 E 92 3 (l.length-i) g ((i+1)*3) (l.length-i) b ⟨g,i*3,none⟩ (l.length+1-i) Y (S.drop (i*3)) underlying77 (by kernel_rfl) (by simp only[Nat.min_def];split<;>omega) L
   (λj v c=>by rw[gh];exact B (i*3+j) v (by rwa [kxn] at c))
   (λj c=>d _ (by omega)) (λj c=>D _) (λv n=>u v (kja n))
 obtain⟨C,m⟩:∃C,C=w.drew.setCells g ((i+1)*3) (S.drop (i*3)):=⟨_,rfl⟩;have A:∀k,k<b*3->(C.cell? ⟨g,k,none⟩).isSome=true:=λk hk=>by
  rw[m];exact World.isSome_setCells g _ _ _ _ (d k hk)
 have M:∀(W:World),(∀x,W.cell? x=C.cell? x)->(∀x,W.frozen? x=C.frozen? x)->∀E b,(Builtin.copy_ #[77,77] E #[.slice (some ⟨g,i*3,none⟩) (l.length+1-i) b,.slice (some ⟨vb,0,none⟩) 1 1]).run prog W=.ok (goInt 1) (W.setCells g (i*3) x.cells):=λW J Z E b =>
  fO W 77 77 E 92 3 1 g (i*3) (l.length+1-i) b ⟨vb,0,none⟩ 1 1 x.cells underlying77 (by kernel_rfl) (by simp only[Nat.min_def];split<;>omega) rfl
   (λj v c=>by
    rw[gh,kxa,J,m,kx4 g _ _ _ _ (λh _=>absurd h hvb)];exact (n.cell j).trans (by simpa [Dw.cells] using c))
   (λj c=>by rw[J];exact A _ (by have:x.cells.length=3:=rfl;omega)) (λj c=>by rw[Z,m,World.frozen?_setCells];exact D _) (λv n=>by
    simp only[Dw.cells,kqx,kzf,or_false] at n;rcases n with rfl|rfl|rfl<;>rfl)
 have O:Hid ((C.setCells g (i*3) x.cells).ownsRow H 92 3 (.slice (some ⟨g,0,none⟩) (l.length+1) b) (l.length+1) ((l.take i++x::l.drop i).flatMap Dw.cells)):=hid (by
  have K:=de x.cells (i*3) _ _ (de (S.drop (i*3)) ((i+1)*3) _ _ q);rw[<-m] at K;have e1:(i+1)*3=i*3+3:=by omega
  rw[e1,EA (o:=i*3) (k:=3) (V:=x.cells) N (by omega) rfl P] at K;rw[rL,z];exact K)
 have T:Hid (w.grownBy (C.setCells g (i*3) x.cells) (some g)):=hid (by
  rw[m];exact eB (eB (dI (Below.drew (kql _ w)))))
 rw[<-m] at s;have hz1:¬ ((i:Int)=(l.length:Int)):=by omega
 have hb2:¬ (b=i+1):=by omega
 have hb4:¬ (b=i):=by omega
 have hin:i<=l.length:=by omega
 have hw1:IntKind.i64.wrap ((i:Int)+1)=(i:Int)+1:=by rw[IntKind.wrap_i64];omega
 have hw2:IntKind.i64.wrap ((l.length:Int)+1)=(l.length:Int)+1:=by rw[IntKind.wrap_i64];omega
 have hb3:(i:Int)<=(l.length:Int)+1:=by omega
 have hb5:(i:Int)+1<=(l.length:Int)+1:=by omega
 have hb1:(0:Int)<=(i:Int)+1:=by omega
 have htn:((i:Int)+1).toNat=i+1:=by omega
 have htm:((l.length:Int)+1).toNat=l.length+1:=by omega
 have mixed:prog.follows .mixedOrders=true:=by kernel_rfl
 clear m hown n G I r p d D u B Q q N P hS L A z;go_enter func228,ntmps228;go_wp2_with (simp only[U])
 go_region_law_o (refine step_copy_runI rfl _ _ 77 77 rfl _ _ (by simp[Act.eval,Act.put]) (by simp[Act.eval,Act.put]) (s _ _ _) ?_)
 clear s;go_wp2_with ((with_reducible refine nL ?_);refine wpList_copy_runI _ rfl _ _ 77 77 rfl _ _ rfl rfl (M _ (λ_=>rfl) (λ_=>rfl) _ _) ?_);go_ret;exact⟨⟨_,_,rfl,O.out⟩,T.out⟩
theorem C9{T D:List Value}(hx:X=T++R)(hT:T.length=o)(hV:V.length=k)(hR:R.length=k+D.length):r7 (r7 X o V) (o+k) D=T++(V++D):=by
 subst hx;have a:r7 (T++R) o V=T++(V++R.drop k):=by rw[lG _ _ _ (by rw[kqu,hT,hV,hR];omega),kz9 (by omega),kq5 (by omega),kk9,kjf (by omega),kz2,hT,hV];congr 2;congr 1;omega
 rw[a,lG _ _ _ (by simp only[kqu,kzk,hT,hV,hR];omega)];have b:(T++(V++R.drop k)).drop (o+k+D.length)=[]:=kjf (by simp only[kqu,kzk,hT,hV,hR];omega);rw[b,kzs,<-kxr,kz9 (by rw[kqu];omega),kq5 (by rw[kqu];omega),kxr]
theorem jB(vs:Array Value)(n:Nat):(Builtin.zeroCells vs n).toList.length=n*vs.size:=by simp[Builtin.zeroCells]
theorem x8(g:Nat)(l:List Dw)(i:Nat)(x:Dw)(vb H:Nat)(w:World)(hm:l.length<=1000000)(hi:i<l.length)(hH:H<=w.heap.size)(hown:w.ownsRow H 92 3 (.slice (some ⟨g,0,none⟩) l.length l.length) l.length (l.flatMap Dw.cells))(A:Bx w vb 92 #[.int .i64 x.a,.int .u64 (x.v:Int),.bool x.f]):
 Calls prog 228 #[.slice (some ⟨g,0,none⟩) l.length l.length,.int .i64 (i:Int),.slice (some ⟨vb,0,none⟩) 1 1] w λe w'=>Da l i x H (some g) w e w':=by
 obtain⟨cur,R,hHg,hle,hmx,Jk,Q⟩:=ns hown;have hS:(l.flatMap Dw.cells).length=l.length*3:=cj Dw.cells 3 Dw.len l;have Jf:cur=l.flatMap Dw.cells:=by rw[<-Q,kq5 (by omega)]
 subst Jf;have q:∀j v,(l.flatMap Dw.cells)[j]? = some v->w.cell? ⟨g,j,none⟩=some v:=λj v m=>by
  simp[World.cell?,R,m]
 have t:∀v∈l.flatMap Dw.cells,v.oneCell'=true:=λv A=>by
  obtain⟨y,-,hy⟩:=kk8.1 A;simp only[Dw.cells,kqx,kzf,or_false] at hy;rcases hy with rfl|rfl|rfl<;>rfl
 obtain⟨S,E⟩:=xq (l.flatMap Dw.cells);have Jp:g<w.heap.size:=by have N:=q 0 ((l.flatMap Dw.cells)[0]'(by omega)) (kqk _);exact block_lt_of_cell N
 have Ji:vb<w.heap.size:=block_lt_of_cell (v:=.int .i64 x.a) ((A.cell 0).trans (by simp));obtain⟨i0,Jb,L,Y,K⟩:=kzv yH;have Ja:(l.length:Int)+1-(i:Int)=((l.length+1-i:Nat):Int):=by omega
 have D:i+(l.length+1-i)=l.length+1:=by omega
 rw[E] at hS t q;have d:(S.take (i*3)).length=i*3:=by rw[kq3];omega
 have F:(S.drop (i*3)).length=(l.length-i)*3:=by rw[kzk,hS];omega
 have B:(Builtin.firstCells i0.size i (.slice (some ⟨g,0,none⟩) i l.length)).run prog w.drew=.ok (S.take (i*3)).toArray w.drew:=by
  rw[Y];exact run_firstCells_some w.drew 3 i ⟨g,0,none⟩ i l.length (S.take (i*3)) d (λj v m=>by
   rw[gh,kxa];rw[kkw] at m;split at m
   .exact q j v m
   cases m)
 obtain⟨Z,hZ⟩:∃Z:Value,Z=.agg #[.int .i64 0,.int .u64 0,.bool false]:=⟨_,rfl⟩;rw[<-hZ] at L;have p:Z.cells.size=3:=by rw[hZ];rfl
 obtain⟨G,hG⟩:∃G,G=grownCap w (l.length+1) l.length 92:=⟨_,rfl⟩;have J:∀r,(Builtin.append_ #[77,3] r #[.slice (some ⟨g,0,none⟩) i l.length,.int .i64 ((l.length:Int)+1-(i:Int))]).run prog w =
  .ok (.slice (some ⟨w.heap.size,0,none⟩) (l.length+1) G) (w.drew.alloc (.cells ((S.take (i*3)).toArray++Builtin.zeroCells Z.cells (l.length+1-i)++Builtin.zeroCells Z.cells (G-(l.length+1))) 92)):=λr=>by
  have h:=Lib.run_append_grow_zeros w 77 3 r 92 i0 _ .i64 .i64 underlying77 underlying3 Jb L (some ⟨g,0,none⟩) i l.length (S.take (i*3)) B (l.length+1-i) (by omega) (by omega) (by omega) (by omega) (by rw[K];omega) (by rw[K,D];exact growslice_fits (by omega) (by omega));rw[D,<-hG] at h;rw[Ja];exact h
 have Jh:l.length+1<=G:=by rw[hG];exact grownCap_ge w _ _ _
 have P:G<=maxLen:=by rw[hG];exact grownCap_le_maxLen w (l.length+1) l.length 92 (by unfold maxLen;omega)
 have hG63:G<=9223372036854775807:=by unfold maxLen at P;omega
 obtain⟨b,n⟩:∃b:Array Value,b=(S.take (i*3)).toArray++Builtin.zeroCells Z.cells (l.length+1-i)++Builtin.zeroCells Z.cells (G-(l.length+1)):=⟨_,rfl⟩;rw[<-n] at J;have T:b.size=G*3:=by
  have N:b.toList.length=G*3:=by rw[n];simp only[Array.toList_append,kqu,jB,p,d];omega
  simpa using N
 have X:b.toList.take ((l.length+1)*3)=S.take (i*3)++(Builtin.zeroCells Z.cells (l.length+1-i)).toList:=by rw[n];simp only[Array.toList_append];rw[kz9 (by simp only[kqu,jB,p,d];omega),kq5 (by simp only[kqu,jB,p,d];omega)]
 obtain⟨z,c⟩:∃z,z=w.drew.alloc (.cells b 92):=⟨_,rfl⟩;have s:∀W:World,W.heap=z.heap->W.ownsRow H 92 3 (.slice (some ⟨w.heap.size,0,none⟩) (l.length+1) G) (l.length+1) (S.take (i*3)++(Builtin.zeroCells Z.cells (l.length+1-i)).toList):=λW hW=>by
  refine⟨by simp only[kqu,jB,p,d];omega,Or.inr ⟨w.heap.size,G,b,rfl,hH,?_,Jh,P,T,X⟩⟩;rw[hW,c];show (w.heap.push (Obj.cells b 92 (0,0)))[w.heap.size]? = _;simp
 have hN:∀j,j<(l.length+1)*3->(z.cell? ⟨w.heap.size,j,none⟩).isSome=true:=λj m=>by
  rw[c,World.cell?_alloc_at (w:=w.drew) b _ w.heap.size j rfl,kjh (by omega)];rfl
 have Eq:∀j,z.frozen? ⟨w.heap.size,j,none⟩=false:=λj=>by rw[c];exact World.frozen?_alloc_at (w:=w.drew) b _ w.heap.size j rfl
 have Jc:∀j v,w.cell? ⟨g,j,none⟩=some v->z.cell? ⟨g,j,none⟩=some v:=λj v h=>by rw[c,World.cell?_alloc_past (w:=w.drew) _ g j Jp];exact h
 have Jg:∀j v,w.cell? ⟨vb,j,none⟩=some v->z.cell? ⟨vb,j,none⟩=some v:=λj v h=>by rw[c,World.cell?_alloc_past (w:=w.drew) _ vb j Ji];exact h
 have O:∀(W:World),(∀x,W.cell? x=z.cell? x)->(∀x,W.frozen? x=z.frozen? x)->∀r I,(Builtin.copy_ #[77,77] r #[.slice (some ⟨w.heap.size,i*3,none⟩) (l.length+1-i) I,.slice (some ⟨vb,0,none⟩) 1 1]).run prog W=.ok (goInt 1) (W.setCells w.heap.size (i*3) x.cells):=λW u M r I =>
  fO W 77 77 r 92 3 1 w.heap.size (i*3) (l.length+1-i) I ⟨vb,0,none⟩ 1 1 x.cells underlying77 (by kernel_rfl) (by simp only[Nat.min_def];split<;>omega) rfl
   (λj v m=>by
    rw[gh,kxa,u];exact Jg _ v ((A.cell j).trans (by simpa [Dw.cells] using m)))
   (λj m=>by rw[u];exact hN _ (by have:x.cells.length=3:=rfl;omega)) (λj m=>by rw[M];exact Eq _) (λv A=>by
    simp only[Dw.cells,kqx,kzf,or_false] at A;rcases A with rfl|rfl|rfl<;>rfl)
 have Jo:g≠w.heap.size:=by omega
 have C:∀(W:World),(∀y,W.cell? y=(z.setCells w.heap.size (i*3) x.cells).cell? y)->(∀y,W.frozen? y=(z.setCells w.heap.size (i*3) x.cells).frozen? y)->∀r I sc,(Builtin.copy_ #[77,77] r #[.slice (some ⟨w.heap.size,(i+1)*3,none⟩) (l.length-i) I,.slice (some ⟨g,i*3,none⟩) (l.length-i) sc]).run prog W=.ok (goInt ((l.length-i:Nat):Int)) (W.setCells w.heap.size ((i+1)*3) (S.drop (i*3))):=λW u M r I sc =>
  fO W 77 77 r 92 3 (l.length-i) w.heap.size ((i+1)*3) (l.length-i) I ⟨g,i*3,none⟩ (l.length-i) sc (S.drop (i*3)) underlying77 (by kernel_rfl) (by simp only[Nat.min_def];split<;>omega) F
   (λj v m=>by
    rw[gh,u,kx4 _ _ _ _ _ (λh _=>absurd h Jo)];exact Jc _ v (q (i*3+j) v (by rwa [kxn] at m)))
   (λj m=>by rw[u];exact World.isSome_setCells _ _ _ _ _ (hN _ (by omega)))
   (λj m=>by rw[M,World.frozen?_setCells];exact Eq _) (λv A=>t v (kja A))
 have U:Hid (((((w.alloc (.cells b 92)).drew.setCells w.heap.size (i*3) x.cells).drew).setCells w.heap.size ((i+1)*3) (S.drop (i*3))).ownsRow H 92 3 (.slice (some ⟨w.heap.size,0,none⟩) (l.length+1) G) (l.length+1) ((l.take i++x::l.drop i).flatMap Dw.cells)):=hid (by
  have h0:=de x.cells (i*3) _ _ (s (w.alloc (.cells b 92)).drew (by rw[c];rfl));have N:=de (S.drop (i*3)) ((i+1)*3) _ _ (show (((w.alloc (.cells b 92)).drew.setCells w.heap.size (i*3) x.cells).drew).ownsRow H 92 3 _ _ _ from h0);have e1:(i+1)*3=i*3+3:=by omega
  rw[e1,C9 (o:=i*3) (k:=3) (V:=x.cells) rfl d rfl (by rw[jB,p,F];omega)] at N;rw[rL,E,e1];exact N)
 have Jm:Hid (w.grownBy ((((w.alloc (.cells b 92)).drew.setCells w.heap.size (i*3) x.cells).drew).setCells w.heap.size ((i+1)*3) (S.drop (i*3))) (some g)):=hid (dI (aU (kqd _) _ (Below.drew (aU (kqd _) _ (Below.drew (Below.alloc (kql _ w) (kqd _) _))))));rw[<-c] at J;subst c;have Jl:∀x,((w.alloc (.cells b 92)).drew).cell? x=(w.drew.alloc (.cells b 92)).cell? x:=λx=>rfl;have Je:∀x,((w.alloc (.cells b 92)).drew).frozen? x=(w.drew.alloc (.cells b 92)).frozen? x:=λx=>rfl;have Jd:∀y,(((w.alloc (.cells b 92)).drew.setCells w.heap.size (i*3) x.cells).drew).cell? y=((w.drew.alloc (.cells b 92)).setCells w.heap.size (i*3) x.cells).cell? y:=λy=>rfl;have Jj:∀y,(((w.alloc (.cells b 92)).drew.setCells w.heap.size (i*3) x.cells).drew).frozen? y=((w.drew.alloc (.cells b 92)).setCells w.heap.size (i*3) x.cells).frozen? y:=λy=>rfl;have hz1:¬ ((i:Int)=(l.length:Int)):=by omega
 have hz3:(l.length:Int)<(l.length:Int)+1:=by omega
 have hGi:¬ (G=i):=by omega
 have hGim:¬ (G=i+1):=by omega
 have hci:¬ (l.length=i):=by omega
 have hin:i<=l.length:=by omega
 have hw1:IntKind.i64.wrap ((i:Int)+1)=(i:Int)+1:=by rw[IntKind.wrap_i64];omega
 have hw2:IntKind.i64.wrap ((l.length:Int)+1)=(l.length:Int)+1:=by rw[IntKind.wrap_i64];omega
 have hw3:IntKind.i64.wrap ((l.length:Int)+1-(i:Int))=(l.length:Int)+1-(i:Int):=by rw[IntKind.wrap_i64];omega
 have hb3:(i:Int)<=(l.length:Int):=by omega
 have hb5:(i:Int)+1<=(l.length:Int)+1:=by omega
 have hb1:(0:Int)<=(i:Int)+1:=by omega
 have htn:((i:Int)+1).toNat=i+1:=by omega
 have htm:((l.length:Int)+1).toNat=l.length+1:=by omega
 have mixed:prog.follows .mixedOrders=true:=by kernel_rfl
 clear hown A Q Jk R t q hS F E Ja D B n hG T X s p hZ L Y K Jb d;go_enter func228,ntmps228;go_wp2_with (first
  | ((with_reducible refine nL ?_);refine wpList_copy_runI _ rfl _ _ 77 77 rfl _ _ rfl rfl (O _ Jl Je _ _) ?_)
  | ((with_reducible refine nL ?_);refine wpList_copy_runI _ rfl _ _ 77 77 rfl _ _ rfl rfl (C _ (λ_=>rfl) (λ_=>rfl) _ _ _) ?_)
  | (at_builtin;refine Lib.wpList_append_run _ rfl _ _ _ _ rfl _ _ rfl rfl _ _ (J _) ?_))
 go_region_law_o (refine step_copy_runI rfl _ _ 77 77 rfl (.slice (some ⟨w.heap.size,(i+1)*3,none⟩) (l.length-i) (G-(i+1))) (.slice (some ⟨g,i*3,none⟩) (l.length-i) (l.length-i)) (by simp[Act.eval,Act.put]) (by simp[Act.eval,Act.put]) (C _ Jd Jj 3 (G-(i+1)) (l.length-i)) ?_)
 go_wp2;go_ret;exact⟨⟨_,_,rfl,U.out⟩,Jm.out⟩
theorem ins_c(DA:Option Addr)(l:List Dw)(dc i:Nat)(x:Dw)(vb H:Nat)(w:World)(hm:l.length<=1000000)(hi:i<=l.length)(hH:H<=w.heap.size)(hown:w.ownsRow H 92 3 (.slice DA l.length dc) l.length (l.flatMap Dw.cells))(hv:Bx w vb 92 #[.int .i64 x.a,.int .u64 (x.v:Int),.bool x.f])(hvb:(Value.slice DA l.length dc).ownBlock≠some vb):
 Calls prog 228 #[.slice DA l.length dc,.int .i64 (i:Int),.slice (some ⟨vb,0,none⟩) 1 1] w λe w'=>Da l i x H (Value.slice DA l.length dc).ownBlock w e w':=by
 by_cases k:i=l.length
 .subst k;exact CZ DA l dc x vb H w hm hH hown hv
 have c:i<l.length:=by omega
 obtain⟨g,c9,b⟩:=fK hown (by omega);injection b with h2 h3 h4;subst h2;subst h4;have d:vb≠g:=λh=>hvb (by rw[h];rfl);by_cases j:l.length+1<=dc
 .exact Fv g l dc i x vb H w hm c j hH hown hv d
 have hc:=aZ hown;have:dc=l.length:=by omega
 subst this;exact x8 g l i x vb H w hm c hH hown hv
theorem Fs{H sz:Nat}{e:TypeId}{v:Value}{xs:List Value}(h:w.ownsRow H e sz v n xs):v.ownBlock≠some w.heap.size:=by
 rcases h.2 with⟨rfl,-⟩|⟨g,cap,cur,rfl,-,c,-⟩
 .intro h;cases h
 intro a;have b:g=w.heap.size:=by injection a
 subst b;simp at c
theorem AG(l:List Dw)(i:Nat)(x:Dw)(hi:i<l.length):r7 (l.flatMap Dw.cells) (i*3) x.cells=(l.set i x).flatMap Dw.cells:=by have b:=cj Dw.cells 3 Dw.len l;have a:x.cells.length=3:=rfl;rw[lG _ _ _ (by rw[b,a];omega),List.set_eq_take_append_cons_drop,if_pos hi,kxi,kzy,gU Dw.cells 3 Dw.len,rM Dw.cells 3 Dw.len,a];rw[show (i+1)*3=i*3+3 by omega]
theorem zq(A DA:Option Addr)(im:List Nat)(dw:List Dw)(lf:Int)(dn:Bool)(n c m dc a v:Nat)(w:World)(hn:im.length=n)(hm:dw.length=m)(hok:eW ⟨im,dw,lf,dn⟩=true)(ha:a<n)(_hv:v<18446744073709551616)(hm2:m<=1000000)(hi:RdW w w.heap.size A im)(hr:RdQ w w.heap.size DA dw):
 Calls prog 180 #[.agg #[.slice A n c,.slice DA m dc,.int .i64 lf,.bool dn],.int .i64 (a:Int),.int .u64 (v:Int)] w λe w'=>(∃u,e=.returned (.tuple #[u,.int .i64 0])/\mh w' w.heap.size (dvS ⟨im,dw,lf,dn⟩ (a:Int) v) u)/\Below w.heap.size w w':=by
 have R:=(bH _).1 hok;have hs:=(aa _).1 R.1;dsimp only at hs;have Js : -1<=lf/\lf<=1000000:=⟨R.2.1,R.2.2.1⟩;have Ja:=R.2.2.2.2;dsimp only at Ja;have Kc:=hid (inc_of Ja);have V:=hid (λW (h:RdQ W W.heap.size DA dw)=>Fo A DA im dw lf dn n c m dc (a:Int) W hn hm (by omega) (by omega) h);rw[yl hok (by omega) (by dsimp only;omega)] at V;have x:=hid (λW (h:RdW W W.heap.size A im) (h2:RdQ W W.heap.size DA dw)=>mY A DA im dw lf dn n c m dc W hn hm (by omega) (by omega) (by omega) Js h h2);unfold mh at x;rw[(oH _).1,(oH _).2] at x;dsimp only at x;rw[hn,hm] at x;have HR:=hid hi;have HQ:=hid hr;obtain⟨W0,Kh,Y,x1,Ji,Kl⟩:=mL w A DA lf dn n c m dc;have U:=hid Y;have X1:=hid x1;have Jo:=hid Ji;have q:=hid hn;have Jh:=hid hm;obtain⟨q0,q1,q2,q3,-,-,-,-,hg⟩:=Y.c4;have Jw:w.heap.size<=W0.heap.size:=by omega
 have Kn:w.heap.size+1<W0.heap.size:=by omega
 have Jk:w.heap.size+1≠w.heap.size:=by omega
 have hn3:n<=2048:=by omega
 clear hi hr Y x1 Ji Kl hn hm R hs Ja hok;go_enter func180,ntmps180;go_wp2_with fail;clear Kh;refine (V.out W0 (HQ.out.up Jo.out Jw)).mono ?_;rintro e w1 ⟨rfl,D⟩;have Y:=U.out.up D hg;have f:=hid (Jo.out.trans (D.mono Jw));have hz1:=D.size;obtain⟨p0,p1,p2,p3,-,-,-,-,o⟩:=Y.c4;have Y0:=hid Y;have Y1:=hid (X1.out.up D Kn);have b:w.heap.size+1<w1.heap.size:=by omega
 clear Y D q0 q1 q2 q3;go_wp2_with fail;refine (x.out w1 (HR.out.up f.out f.out.size) (HQ.out.up f.out f.out.size)).mono ?_;rintro e w2 ⟨⟨_,rfl,J,I,C,r,rfl,Jf,Kd,Jy⟩,H⟩;have Jc:=hid Kd;have O:=hid Jy;have Z0:=hid (Y0.out.up H o);have Z1:=hid (Y1.out.up H b);have Jb:=hid (f.out.trans (H.mono f.out.size));have Km:=H.size;clear H Kd Jy p0 p1 p2 p3;by_cases G:lf=0
 .subst G;have HV:Hid (dvS ⟨im,dw,0,dn⟩ (a:Int) v=⟨im,dw,0,true⟩):=hid (by unfold dvS dvD;rw[if_pos rfl]);rw[qh rfl,show decide ((0:Int)≠0)=false from rfl];unfold dvD;dsimp only;go_wp2_with (first
   | ((with_reducible refine aq 79 (.tmp 3) _ ?_);refine stD Z0.out ?_;intro K Z d)
   | ((with_reducible refine aM 79 (.tmp 3) ?_);refine ldD Z.out ?_)
   | ((with_reducible refine aq 79 (.tmp 6) _ ?_);refine stD (d.out.bx Z1.out Jk) ?_;intro w9 E j))
  refine kqr (v:=.tuple #[.agg #[.slice J n I,.slice C m r,.int .i64 0,.bool true],.int .i64 0]) (a9 results180 _ E.out rfl rfl rfl) rfl ⟨⟨_,rfl,by
   rw[HV.out];exact⟨J,I,C,r,by rw[q.out,Jh.out],by rw[q.out];exact Jf,by rw[q.out];exact ao (ap (ap Jc.out d.out o) j.out b) f.out.size,by rw[Jh.out];exact ao (ap (ap O.out d.out o) j.out b) f.out.size⟩⟩,j.out.below (d.out.below Jb.out (kqd _)) (by omega)⟩
 have ed:decide (lf≠0)=true:=by rw[kqn];exact G
 have HV:Hid (dvS ⟨im,dw,lf,dn⟩ (a:Int) v=⟨im,stQ dw (a:Int) v,dec lf,dn⟩):=hid (by unfold dvS;rw[if_neg G]);have Ka:dvB ⟨im,dw,lf,dn⟩=⟨im,dw,dec lf,dn⟩:=by unfold dvB;rw[if_neg G]
 rw[ed,Ka];dsimp only;obtain⟨l2,Kb⟩:=xq (dec lf);rw[Kb] at HV |-;subst Jh;clear Kb Ka ed G Js;go_wp2_with (first
  | (((with_reducible refine aq 79 (.tmp 3) _ ?_);refine stD Z0.out ?_;intro K Z d);obtain⟨s0,s1,s2,s3,M,L,P,N,slt⟩:=Z.out.c4)
  | ((with_reducible refine aM 79 (.tmp 3) ?_);refine ldD Z.out ?_))
 have Ko:w.heap.size<K.heap.size:=Z.out.lt;have Jm:w.heap.size+1<K.heap.size:=by have:=d.out.1;omega
 have YD:=hid (Bx.new K 92 #[.int .i64 (a:Int),.int .u64 (v:Int),.bool false]);have V0:=hid (Z.out.alloc (.cells #[.int .i64 (a:Int),.int .u64 (v:Int),.bool false] 92));have V1:=hid ((d.out.bx Z1.out Jk).alloc (.cells #[.int .i64 (a:Int),.int .u64 (v:Int),.bool false] 92));have VO:=hid ((ap Jc.out d.out o).alloc (.cells #[.int .i64 (a:Int),.int .u64 (v:Int),.bool false] 92));have VQ:=hid ((ap O.out d.out o).alloc (.cells #[.int .i64 (a:Int),.int .u64 (v:Int),.bool false] 92));have Ke:=hid (Fs (ap O.out d.out o));have VB:=hid ((d.out.below Jb.out (kqd _)).alloc (by omega) (.cells #[.int .i64 (a:Int),.int .u64 (v:Int),.bool false] 92));have T:(K.alloc (.cells #[.int .i64 (a:Int),.int .u64 (v:Int),.bool false] 92)).heap.size=K.heap.size+1:=kqm _ _;have Jt:w1.heap.size<=K.heap.size:=by have:=d.out.1;omega
 obtain⟨b3,Jr⟩:=xq K.heap.size;obtain⟨w4,Jv⟩:∃w4,K.alloc (.cells #[.int .i64 (a:Int),.int .u64 (v:Int),.bool false] 92)=w4:=⟨_,rfl⟩;rw[Jr] at YD Ke T Ko Jm Jt |-;rw[Jv] at YD V0 V1 VO VQ VB T |-;clear Jv Jc O Jb Z0 Z1 d Km s0 s1 s2 s3 M L P N slt Z Jr;refine (Er J C dw l2 dn n I dw.length r (a:Int) w4 rfl hm2 Kc.out (Rd.of_own VQ.out)).mono ?_;rintro e F ⟨⟨i,rfl,Je⟩,s⟩;have U:=hid (V0.out.up s (by omega));have X1:=hid (V1.out.up s (by omega));have XD:=hid (YD.out.up s (by omega));have XO:=hid (ai VO.out s (kqd _));have XQ:=hid (ai VQ.out s (kqd _));have XB:=hid (VB.out.trans (s.mono VB.out.size));have hz5:=s.size;have Kj:i<=dw.length:=Je.1;have y:=hid (stQ_at (v:=v) Je);clear s V0 V1 YD VO VQ VB Je HR HQ V x;obtain⟨s0,s1,s2,s3,M,L,P,N,slt⟩:=U.out.c4;cases X:t6 dw (a:Int) i
 .rw[X] at y;have Jg:=hid (show stQ dw (a:Int) v=dw.take i++⟨(a:Int),v,false⟩::dw.drop i by rw[y.out];simp);clear y X;go_wp2_with (first
   | ((with_reducible refine aM 79 (.tmp 3) ?_);refine ldD U.out ?_)
   | ((with_reducible refine aM 92 (.tmp 10) ?_);refine kxf rfl _ _ rfl b3 (by rfl) 92 _ (0,0) _ XD.out underlying92 (by rfl) (by kernel_rfl) ?_))
  have Ju:(F.alloc (.cells #[.int .i64 (a:Int),.int .u64 (v:Int),.bool false] 92)).heap.size=F.heap.size+1:=kqm _ _;have Z0:=hid (U.out.alloc (.cells #[.int .i64 (a:Int),.int .u64 (v:Int),.bool false] 92));have Z1:=hid (X1.out.alloc (.cells #[.int .i64 (a:Int),.int .u64 (v:Int),.bool false] 92));have ZO:=hid (XO.out.alloc (.cells #[.int .i64 (a:Int),.int .u64 (v:Int),.bool false] 92));have ZQ:=hid (XQ.out.alloc (.cells #[.int .i64 (a:Int),.int .u64 (v:Int),.bool false] 92));have ZB:=hid (XB.out.alloc (by omega) (.cells #[.int .i64 (a:Int),.int .u64 (v:Int),.bool false] 92));have ZN:=hid (Bx.new F 92 #[.int .i64 (a:Int),.int .u64 (v:Int),.bool false]);have ZL:=hid (Fs XQ.out);obtain⟨w6,z⟩:∃w6,F.alloc (.cells #[.int .i64 (a:Int),.int .u64 (v:Int),.bool false] 92)=w6:=⟨_,rfl⟩;rw[z] at Z0 Z1 ZO ZQ ZB ZN Ju |-;clear z s0 s1 s2 s3 M L P N;refine (ins_c C dw r i ⟨(a:Int),v,false⟩ F.heap.size w1.heap.size w6 hm2 Kj (by omega) ZQ.out ZN.out ZL.out).mono ?_;rintro e w7 ⟨⟨Q,S,rfl,Jd⟩,l⟩;have t:∀k,k<w1.heap.size->some k≠(Value.slice C dw.length r).ownBlock:=λk R=>bK ZQ.out R;have Ki:=l.size;have y0:Bx w7 w.heap.size _ _:=(l.block w.heap.size (by omega) (by first|exact t _ o|exact (t _ o).symm)).trans Z0.out
  have y1:Bx w7 (w.heap.size+1) _ _:=(l.block (w.heap.size+1) (by omega) (by first|exact t _ b|exact (t _ b).symm)).trans Z1.out;have yb:Below w.heap.size w w7:=ZB.out.trans ⟨l.os,l.tape,l.output,l.size,λk R=>l.block k (by omega) (by first|exact t _ (by omega) | exact (t _ (by omega)).symm)⟩;have yo:=bu ZO.out l (fE ZO.out ZQ.out (by decide));have Y0:=hid (show Bx (w7.setCell ⟨w.heap.size,1,none⟩ (.slice Q (dw.length+1) S)) w.heap.size 79 #[.slice J n I,.slice Q (dw.length+1) S,.int .i64 l2,.bool dn] from y0.set_ 1 _);have Y1:=hid (y1.far (p:=⟨w.heap.size,1,none⟩) (show w.heap.size+1≠w.heap.size by omega) (.slice Q (dw.length+1) S));have YO:=hid (au yo (p:=⟨w.heap.size,1,none⟩) (bK yo o).symm (.slice Q (dw.length+1) S));have YQ:=hid (au Jd (p:=⟨w.heap.size,1,none⟩) (bK Jd o).symm (.slice Q (dw.length+1) S));have YB:=hid (yb.setCell (p:=⟨w.heap.size,1,none⟩) (kqd _) (.slice Q (dw.length+1) S));obtain⟨s0,s1,s2,s3,M,L,P,N,slt⟩:=y0.c4;clear l Jd y0 y1 yb yo t Ki;go_wp2_with (first
   | ((with_reducible refine aM 79 (.tmp 3) ?_);refine ldD Y0.out ?_)
   | ((with_reducible refine aq 79 (.tmp 6) _ ?_);refine stD Y1.out ?_;intro w9 E j))
  refine kqr (v:=.tuple #[.agg #[.slice J n I,.slice Q (dw.length+1) S,.int .i64 l2,.bool dn],.int .i64 0]) (a9 results180 _ E.out rfl rfl rfl) rfl ⟨⟨_,rfl,by
   have Jz:(dw.take i++(⟨(a:Int),v,false⟩:Dw)::dw.drop i).length=dw.length+1:=by rw[kqu,kq2,kq3,kzk];omega
   rw[HV.out,Jg.out];unfold mh;dsimp only;rw[Jz];exact⟨J,I,Q,S,by rw[q.out],by rw[q.out];exact Jf,by rw[q.out];exact ao (ap YO.out j.out b) f.out.size,ao (ap YQ.out j.out b) f.out.size⟩⟩,j.out.below YB.out (by omega)⟩
 rw[X] at y;have Kg:i<dw.length:=by
  rcases kq6 i dw.length with h|h
  .exact h
  unfold t6 at X;rw[kzb h] at X;cases X
 have Jg:=hid (show stQ dw (a:Int) v=dw.set i ⟨(a:Int),v,false⟩ by rw[y.out,if_pos rfl]);clear y X;obtain⟨g,c9,Jj⟩:=fK XQ.out (by omega);obtain⟨rfl,-,rfl⟩:C=some ⟨g,0,none⟩/\dw.length=dw.length/\r=c9:=by injection Jj with h1 h2 h3;exact⟨h1,h2,h3⟩
 have hgb:w1.heap.size<=g:=gp XQ.out;have hki:(i:Int)<(dw.length:Int):=by omega
 have hk0:(0:Int)<=(i:Int):=by omega
 have Jl:F.there g (i*3) (#[.int .i64 (a:Int),.int .u64 (v:Int),.bool false]:Array Value).size:=jl XQ.out (i*3) 3 (by omega);have Jq:(prog.info? 92).map (·.size)=some (#[.int .i64 (a:Int),.int .u64 (v:Int),.bool false]:Array Value).size:=by kernel_rfl
 have Jp:(#[.int .i64 (a:Int),.int .u64 (v:Int),.bool false]:Array Value).all (·.oneCell')=true:=by simp[Value.oneCell']
 have hx:=de (Dw.cells ⟨(a:Int),v,false⟩) (i*3) F _ XQ.out;rw[AG dw i _ Kg] at hx;have YQ:=hid hx;have YA:Hid (iq F (F.setCells g (i*3) (Dw.cells ⟨(a:Int),v,false⟩)) g):=hid ⟨cV _ _ _,λg' Kk=>dr Kk _ _ _,λB hB=>aU hB _ (kql _ _)⟩;have YO:=hid (bu XO.out YA.out.grown (show (Value.slice J n I).ownBlock=none\/(Value.slice J n I).ownBlock≠some g from fE XO.out XQ.out (by decide)));have Y0:=hid (YA.out.bx U.out (show w.heap.size≠g by omega));have Y1:=hid (YA.out.bx X1.out (show w.heap.size+1≠g by omega));have YB:=hid (YA.out.below XB.out (show w.heap.size<=g by omega));obtain⟨cs,Eq⟩:∃cs:Array Value,#[.int .i64 (a:Int),.int .u64 (v:Int),.bool false]=cs:=⟨_,rfl⟩;obtain⟨w6,z⟩:∃w6,F.setCells g (i*3) (Dw.cells ⟨(a:Int),v,false⟩)=w6:=⟨_,rfl⟩;have Kf:F.setCells g (i*3) cs.toList=w6:=by rw[<-Eq];exact z
 rw[z] at YQ YA YO Y0 Y1 YB;rw[Eq] at Jl Jq Jp;clear z hx Jj Ke;go_wp2_with (first
  | ((with_reducible refine aM 79 (.tmp 3) ?_);refine ldD U.out ?_)
  | ((with_reducible refine aM 79 (.tmp 3) ?_);refine ldD Y0.out ?_)
  | ((with_reducible refine aM 92 (.tmp 10) ?_);refine kxf rfl _ _ rfl b3 (by rfl) 92 _ (0,0) _ XD.out underlying92 (by rfl) (by kernel_rfl) ?_)
  | ((with_reducible refine aq 92 (.tmp 42) _ ?_);refine kjo rfl _ _ _ rfl g (i*3) cs (by rfl) (by rw[<-Eq];rfl) Jl Jq Jp ?_;rw[Kf])
  | ((with_reducible refine aq 79 (.tmp 6) _ ?_);refine stD Y1.out ?_;intro w9 E j))
 refine kqr (v:=.tuple #[.agg #[.slice J n I,.slice (some ⟨g,0,none⟩) dw.length r,.int .i64 l2,.bool dn],.int .i64 0]) (a9 results180 _ E.out rfl rfl rfl) rfl ⟨⟨_,rfl,by
  rw[HV.out,Jg.out];exact⟨J,I,some ⟨g,0,none⟩,r,by rw[kq4,q.out],by rw[q.out];exact Jf,by rw[q.out];exact ao (ap YO.out j.out b) f.out.size,by rw[kq4];exact ao (ap YQ.out j.out b) f.out.size⟩⟩,j.out.below YB.out (by omega)⟩
end Go.Proofs.YtpcajamacpbjcaaGreat
