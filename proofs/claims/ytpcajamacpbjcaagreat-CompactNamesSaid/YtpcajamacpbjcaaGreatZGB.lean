/- Devices: what the program returns (where a dirty word is, or would be). -/
import Derived.Test.YtpcajamacpbjcaaGreatZGA
import Derived.Test.YtpcajamacpbjcaaGreatZKWnt
import Derived.Shelf.Spec.SlicesInsertGrow
import Derived.Test.YtpcajamacpbjcaaGreatZKCo
set_option maxHeartbeats 16000000
set_option maxRecDepth 100000
set_option linter.all false
namespace Go.Proofs.YtpcajamacpbjcaaGreat
open Lib (hid)
open Go.RowKit
variable {R V X:List Value}{k n o:Nat}{w w':World}
open Go.Proofs.Tryz
def qP (x y:Int):Int:=if x<y then -1 else if y<x then 1 else 0
theorem lQ(x:Int)(w:World):Calls prog 289 #[.int .i64 x] w λe w'=>e=.returned (.bool false)/\w=w':=by go_enter func289,ntmps289;go_wp2;go_ret;exact⟨by simp,rfl⟩
theorem Cd(x y:Int)(w:World):Calls prog 268 #[.int .i64 x,.int .i64 y] w λe w'=>e=.returned (.int .i64 (qP x y))/\w=w':=by
 by_cases c:x<y
 .have b:Hid (qP x y = -1):=hid (by unfold qP;rw[if_pos c]);go_enter func268,ntmps268;go_wp2_with fail;refine (lQ x w).mono ?_;rintro e a ⟨rfl,rfl⟩;go_wp2_with fail;refine (lQ y w).mono ?_;rintro e a ⟨rfl,rfl⟩;go_wp2;go_ret;exact⟨by rw[b.out];rfl,rfl⟩
 by_cases d:y<x
 .have b:Hid (qP x y=1):=hid (by unfold qP;rw[if_neg c,if_pos d]);go_enter func268,ntmps268;go_wp2_with fail;refine (lQ x w).mono ?_;rintro e a ⟨rfl,rfl⟩;go_wp2_with fail;refine (lQ y w).mono ?_;rintro e a ⟨rfl,rfl⟩;go_wp2;go_ret;exact⟨by rw[b.out];rfl,rfl⟩
 have b:Hid (qP x y=0):=hid (by unfold qP;rw[if_neg c,if_neg d]);go_enter func268,ntmps268;go_wp2_with fail;refine (lQ x w).mono ?_;rintro e a ⟨rfl,rfl⟩;go_wp2_with fail;refine (lQ y w).mono ?_;rintro e a ⟨rfl,rfl⟩;go_wp2;go_ret;exact⟨by rw[b.out];rfl,rfl⟩
theorem FF(x a:Int)(v:Nat)(f:Bool)(w:World):Calls prog 267 #[.agg #[.int .i64 x,.int .u64 (v:Int),.bool f],.int .i64 a] w λe w'=>e=.returned (.int .i64 (qP x a))/\Below w.heap.size w w':=by have c:=hid (λW=>Cd x a W);have d:=hid ((kqk w.heap.size w).alloc (kqa _) (.cells #[.int .i64 x,.int .u64 (v:Int),.bool f] 92));obtain⟨q,b⟩:=xq (qP x a);rw[b] at c |-;clear b;go_enter func267,ntmps267;go_wp2_with fail;refine (c.out _).mono ?_;rintro e w1 ⟨rfl,rfl⟩;go_wp2;go_ret;exact⟨rfl,d.out⟩
def CQ (l:List Dw) (a:Int) (i:Nat):Prop:=i<=l.length/\(∀k (h:k<l.length),k<i->l[k].a<a)/\∀k (h:k<l.length),i<=k->a<=l[k].a
def uy (l:List Dw) (a:Int) (i:Nat):Bool:=match l[i]? with | some e=>e.a==a | none=>false
def Fm (l:List Dw) (a:Int) (e:Ending):Prop:=∃i:Nat,e=.returned (.tuple #[.int .i64 (i:Int),.bool (uy l a i)])/\CQ l a i
theorem inc_of :∀ {l:List Dw} {b:Int},gN n l b=true->l.Pairwise (λx y=>x.a<y.a):=by
 intro l
 induction l with
 | nil=>intro b _;exact List.Pairwise.nil
 | cons e l ih =>intro b h;simp only[gN,kqo,kzc] at h;exact List.Pairwise.cons (λx c=>(iQ h.2.2 x c).1) (ih h.2.2)
theorem s6(A:Option Addr)(l:List Dw)(c n:Nat)(a:Int)(w:World)(hn:l.length=n)(hm:n<=1000000)(hinc:l.Pairwise (λx y=>x.a<y.a))(hr:RdQ w w.heap.size A l):
 Calls prog 266 #[.slice A n c,.int .i64 a,.func (.func 267) #[] #[]] w λe w'=>Fm l a e/\Below w.heap.size w w':=by
 subst hn;have HR:=hid hr;have HI:=hid (kze.1 hinc);have M:=hid (λx v f W=>FF x a v f W);clear hr hinc;go_enter func266,ntmps266;go_wp2_with fail;go_loopw [9,10] (λi j wr=>∃p q:Nat,p<=q/\q<=l.length/\i=.int .i64 p/\j=.int .i64 q/\Hid (∀k (h:k<l.length),k<p->l[k].a<a)/\Hid (∀k (h:k<l.length),q<=k->a<=l[k].a)/\Below w.heap.size w wr) (λi j _=>(intOf j).toNat-(intOf i).toNat)
 case atStart=>exact⟨0,l.length,kqy _,kqa _,rfl,rfl,hid λk h h2=>by omega,hid λk h h2=>by omega,kqk _ _⟩
 obtain⟨p,q,hpq,S,rfl,rfl,HL,HU,B⟩:=hrel;have V:=B.size;by_cases hlt:p<q
 .have T:(p+q)/2<l.length:=by omega
  obtain⟨h,N⟩:=xq ((p+q)/2);rw[N] at T;have hph:p<=h:=by omega
  have hhq:h<q:=by omega
  have i1:IntKind.u64.wrap ((p:Int)+(q:Int))=((p+q:Nat):Int):=by rw[kz0 _ (by omega)];omega
  have i2:((p+q:Nat):Int)/2=(h:Int):=by omega
  have i3:((p:Int)+(q:Int))/2=(h:Int):=by omega
  obtain⟨b,o,rfl,U,R,L,J⟩:=RdQ.at_ (show RdQ wr w.heap.size A l from HR.out.below B) T;have t:=hid (M.out l[h].a l[h].v l[h].f wr);have HX:=hid (λk (g:k<l.length) (z:k<h)=>HI.out k h g T z);have HY:=hid (λk (g:k<l.length) (z:h<k)=>HI.out h k T g z);obtain⟨x,E⟩:=xq (l[h]);have G:=hid (show ∀k (g:k<l.length),k=h->l[k].a=x.a from λk g e=>by subst e;rw[E]);rw[E] at R L J t;simp only[E] at HX HY;obtain⟨F,xv,xf⟩:=x;dsimp only at R L J t HX HY G;have K:(h:Int)<(l.length:Int):=by omega
  have Z:(0:Int)<=(h:Int):=by omega
  clear E N;by_cases D:F<a
  .have r:qP F a = -1:=by unfold qP;rw[if_pos D]
   rw[r] at t;have Y:Hid (∀k (g:k<l.length),k<h+1->l[k].a<a):=hid λk g z=>by
    rcases kq6 k h with Q|Q
    .have:=HX.out k g Q;omega
    have:=G.out k g (by omega);omega
   have H:=hid B;clear r D B;go_wp2_with fail;refine t.out.mono ?_;rintro e w5 ⟨rfl,d⟩;have u:=hid (H.out.trans (d.mono V));clear d;go_wp2;go_roundw
   case rel=>exact⟨h+1,q,by omega,S,by go_num,rfl,Y,HU,u.out⟩
   case measure=>simp[intOf];omega
  have r:0<=qP F a:=by unfold qP;rw[if_neg D];split<;>omega
  obtain⟨I,s⟩:=xq (qP F a);rw[s] at t r;have X:Hid (∀k (g:k<l.length),h<=k->a<=l[k].a):=hid λk g z=>by
   rcases kq6 h k with Q|Q
   .have:=HY.out k g Q;omega
   have:=G.out k g (by omega);omega
  have hd:decide (I<0)=false:=by rw[kqh];omega
  have H:=hid B;clear s D B r;go_wp2_with fail;refine t.out.mono ?_;rintro e w5 ⟨rfl,d⟩;have u:=hid (H.out.trans (d.mono V));clear d;go_wp2;go_roundw
  case rel=>exact⟨p,h,by omega,by omega,rfl,by go_num,HL,X,u.out⟩
  case measure=>simp[intOf];omega
 obtain rfl:p=q:=by omega
 have HF:=hid (show CQ l a p from ⟨S,HL.out,HU.out⟩);have H:=hid B;have hend:decide ((p:Int)<(p:Int))=false:=by rw[kqh];omega
 by_cases C:p<l.length
 .obtain ⟨b,o,rfl,U,R,L,J⟩:=RdQ.at_ (show RdQ wr w.heap.size A l from HR.out.below B) C;have t:=hid (M.out l[p].a l[p].v l[p].f wr);have m:uy l a p=(l[p].a==a):=by unfold uy;rw[kql C]
  obtain⟨x,E⟩:=xq (l[p]);rw[E] at R L J t m;obtain⟨F,xv,xf⟩:=x;dsimp only at R L J t m;have O:(qP F a==0)=uy l a p:=by
   rw[m,kzq,kqw,kqw];unfold qP;split
   .omega
   split<;>omega
  have P:=hid O;obtain⟨I,s⟩:=xq (qP F a);rw[s] at t P;have K:(p:Int)<(l.length:Int):=by omega
  have Z:(0:Int)<=(p:Int):=by omega
  clear E m O s B;go_wp2_with fail;refine t.out.mono ?_;rintro e w5 ⟨rfl,d⟩;have u:=hid (H.out.trans (d.mono V));clear d;go_wp2;go_ret2;exact⟨⟨p,by rw[<-P.out];rfl,HF.out⟩,u.out⟩
 have m:Hid (uy l a p=false):=hid (by unfold uy;rw[kzd (by omega)]);have K:decide ((p:Int)<(l.length:Int))=false:=by rw[kqh];omega
 have hkn:decide (p<l.length)=false:=by rw[kqh];exact C
 clear C B;go_wp2;go_ret2;exact⟨⟨p,by rw[m.out];rfl,HF.out⟩,H.out⟩
theorem Ce(A DA:Option Addr)(dw:List Dw)(lf:Int)(dn:Bool)(n c m dc:Nat)(a:Int)(w:World)(hm:dw.length=m)(hm2:m<=1000000)(hinc:dw.Pairwise (λx y=>x.a<y.a))(hr:RdQ w w.heap.size DA dw):
 Calls prog 227 #[.agg #[.slice A n c,.slice DA m dc,.int .i64 lf,.bool dn],.int .i64 a] w λe w'=>Fm dw a e/\Below w.heap.size w w':=by have g:=hid (λW (h:RdQ W W.heap.size DA dw)=>s6 DA dw dc m a W hm hm2 hinc h);unfold Fm at g |-;have b:=hid ((kqk w.heap.size w).alloc (kqa _) (.cells #[.slice A n c,.slice DA m dc,.int .i64 lf,.bool dn] 79));have j:=hid hr;clear hr hinc hm;go_enter func227,ntmps227;go_wp2_with fail;refine (g.out _ (j.out.up b.out b.out.size)).mono ?_;rintro e w1 ⟨⟨i,rfl,f⟩,d⟩;have k:=hid f;clear f;go_wp2;go_ret2;exact⟨⟨i,rfl,k.out⟩,b.out.trans (d.mono b.out.size)⟩
theorem stQ_at{a:Int}{v:Nat}:∀ {l:List Dw} {i:Nat},CQ l a i->stQ l a v=if uy l a i=true then l.set i ⟨a,v,false⟩ else l.take i++⟨a,v,false⟩::l.drop i:=by
 intro l
 induction l with
 | nil =>
  intro i h;have:i=0:=by have:=h.1;simpa using this
  subst this;rfl
 | cons e l ih =>
  intro i h;cases i with
  | zero =>
   have g:=h.2.2 0 (by simp) (kqa _);simp only[kqd] at g;unfold stQ;rw[if_neg (by omega)];by_cases b:e.a=a
   .rw[if_pos b,if_pos (by unfold uy;simp[b])];rfl
   rw[if_neg b,if_neg (by unfold uy;simp[b])];rfl
  | succ i =>
   have f:=h.2.1 0 (by simp) (by omega);simp only[kqd] at f;have j:CQ l a i:=by
    refine⟨by have:=h.1;simpa using this,λk c d=>?_,λk c d=>?_⟩
    .have:=h.2.1 (k+1) (by simpa using c) (by omega)
     simpa using this
    have:=h.2.2 (k+1) (by simpa using c) (by omega)
    simpa using this
   have m:uy (e::l) a (i+1)=uy l a i:=by unfold uy;simp
   unfold stQ;rw[if_pos f,ih j,m];split<;>rfl
theorem fQ{P:Program}(w:World)(dT sT ty elem:TypeId)(sz k b o dLen dCap:Nat)(a:Addr)(sLen sCap:Nat)(cs:List Value)(hu:P.underlying dT=some (.slice elem))(hs:(P.info? elem).map (·.size)=some sz)(hk:Nat.min sLen dLen=k)(hn:cs.length=k*sz)(hsrc:∀j v,cs[j]? = some v->w.cell? (a.add j)=some v)(hc:∀j,j<cs.length->(w.cell? ⟨b,o+j,none⟩).isSome=true)(hf:∀j,j<cs.length->w.frozen? ⟨b,o+j,none⟩=false)(h1:∀v∈cs,v.oneCell'=true):
 (Builtin.copy_ #[dT,sT] ty #[.slice (some ⟨b,o,none⟩) dLen dCap,.slice (some a) sLen sCap]).run P w=.ok (goInt k) (w.setCells b o cs):=by
 have e:=run_loadCells_list (P:=P) w a cs hsrc;have c:=run_storeCells_cells (P:=P) b o cs 0 w (by simpa using hc) (by simpa using hf) h1;rw[hn] at e;cases d:P.info? elem with
 | none=>simp[d] at hs
 | some i =>
  have f:i.size=sz:=by simpa [d] using hs
  simp[Builtin.copy_,run_underlying hu,Builtin.lenOf,Builtin.firstCells,sizeOf,typeInfo,d,f,hk,e,c]
theorem lm:∀(vs xs:List Value) (o:Nat),o+vs.length<=xs.length->rG xs o vs=xs.take o++(vs++xs.drop (o+vs.length)):=by
 intro vs
 induction vs with
 | nil=>intro xs o _;simp[rG]
 | cons v vs ih =>
  intro xs o h;rw[kq1] at h;show rG (xs.set o v) (o+1) vs=_;rw[ih _ _ (by rw[kq4];omega)];have b:(xs.set o v).take (o+1)=xs.take o++[v]:=by rw[kqn (by rw[kq4];omega),kve (kqa _)];simp
  have a:(xs.set o v).drop (o+1+vs.length)=xs.drop (o+(vs.length+1)):=by rw[kvf (by omega)];congr 1;omega
  rw[b,a,kxs];rfl
theorem DC{S:List Value}(hx:X=S++R)(ho:o<=S.length)(hV:V.length=k)(hR:R.length=k):rG (rG X (o+k) (S.drop o)) o V=S.take o++(V++S.drop o):=by subst hx;have a:(S.drop o).length=S.length-o:=kzj;rw[lm (S.drop o) (S++R) (o+k) (by rw[kqs,a,hR];omega)];have b:(S++R).drop (o+k+(S.drop o).length)=[]:=kx5 (by rw[kqs,a,hR];omega);rw[b,kzr,lm _ _ _ (by rw[kqs,kq3,kqs,a,hV,hR];omega)];rw[kz7 (by rw[kq3,kqs,hR];omega),kj6,kxa (by omega),kz7 ho];congr 2;rw[kk5,kx5 (by rw[kq3,kqs,hR,hV];omega),kzv,kq3,kqs,hR,hV,kxa (by omega),kvg];rfl
theorem rq(l:List Dw)(i:Nat)(x:Dw):(l.take i++x::l.drop i).flatMap Dw.cells=(l.flatMap Dw.cells).take (i*3)++(x.cells++(l.flatMap Dw.cells).drop (i*3)):=by rw[kxf,kzp,fB Dw.cells 3 Dw.len,qD Dw.cells 3 Dw.len]
theorem dD{r:Option Nat}(h:Below w.heap.size w w'):w.grownBy w' r:=⟨h.os,h.tape,h.output,h.size,λk a _=>h.block k a⟩
theorem eB{g:Nat}{vs:List Value}(h:w.grownBy w' (some g)):w.grownBy (w'.setCells g o vs) (some g):=by have b:=aU (B:=0) (kqy g) vs (o:=o) (kqk 0 w');refine⟨b.os.trans h.os,b.tape.trans h.tape,b.output.trans h.output,by rw[cD];exact h.size,λk c a=>?_⟩;rw[dj (λe=>a (by rw[e]))];exact h.block k c a
open Go.RowKit Go.Lib
def Cu (l:List Dw) (i:Nat) (x:Dw) (H:Nat) (r:Option Nat) (w:World) (e:Ending) (w':World):Prop:=(∃A c,e=.returned (.slice A (l.length+1) c)/\w'.ownsRow H 92 3 (.slice A (l.length+1) c) (l.length+1) ((l.take i++x::l.drop i).flatMap Dw.cells))/\w.grownBy w' r
theorem Dq(DA:Option Addr)(l:List Dw)(dc:Nat)(x:Dw)(vb H:Nat)(w:World)(hm:l.length<=1000000)(hH:H<=w.heap.size)(hown:w.ownsRow H 92 3 (.slice DA l.length dc) l.length (l.flatMap Dw.cells))(hv:Bx w vb 92 #[.int .i64 x.a,.int .u64 (x.v:Int),.bool x.f]):
 Calls prog 228 #[.slice DA l.length dc,.int .i64 (l.length:Int),.slice (some ⟨vb,0,none⟩) 1 1] w λe w'=>Cu l l.length x H (Value.slice DA l.length dc).ownBlock w e w':=by
 have q:=co hown;have z:=hid hown;have C:Hid (∀j u,([.int .i64 x.a,.int .u64 (x.v:Int),.bool x.f]:List Value)[j]? = some u->w.cell? ((⟨vb,0,none⟩:Addr).add j)=some u):=hid λj u E=>by
  rw[f8,kxd,hv.cell j]
  simpa using E
 have B:Hid ((l.take l.length++x::l.drop l.length).flatMap Dw.cells=l.flatMap Dw.cells++[.int .i64 x.a,.int .u64 (x.v:Int),.bool x.f]):=hid (by rw[kzf,kj5,kxf];rfl);obtain⟨t,y,o,p,k⟩:=kzw Aq;have A:=hid y;have m:=hid o;have n:=hid p;have i:=hid k;clear y o p k;by_cases s:dc=l.length
 .subst s;clear hown hv q;go_enter func228,ntmps228;go_wp2_with (at_builtin;refine kzk _ rfl _ _ 77 rfl H 92 t _ 3 24 underlying77 A.out m.out n.out i.out rfl (by decide) _ _ _ rfl z.out ⟨vb,0,none⟩ 1 1 [.int .i64 x.a,.int .u64 (x.v:Int),.bool x.f] rfl rfl C.out (by simp[Value.oneCell']) (by unfold maxLen;omega) (by omega) hH ?_;intro v1 D b c _;obtain⟨r,d,rfl⟩:=aS b;have g:=hid b;have h:=hid c;clear b c);go_ret;exact⟨⟨r,d,rfl,by rw[B.out];exact g.out⟩,h.out⟩
 clear hown hv;go_enter func228,ntmps228;go_wp2_with (at_builtin;refine kzk _ rfl _ _ 77 rfl H 92 t _ 3 24 underlying77 A.out m.out n.out i.out rfl (by decide) _ _ _ rfl z.out ⟨vb,0,none⟩ 1 1 [.int .i64 x.a,.int .u64 (x.v:Int),.bool x.f] rfl rfl C.out (by simp[Value.oneCell']) (by unfold maxLen;omega) (by omega) hH ?_;intro v1 D b c _;obtain⟨r,d,rfl⟩:=aS b;have g:=hid b;have h:=hid c;clear b c);go_ret;exact⟨⟨r,d,rfl,by rw[B.out];exact g.out⟩,h.out⟩
theorem Ft(g:Nat)(l:List Dw)(b i:Nat)(x:Dw)(vb H:Nat)(w:World)(hm:l.length<=1000000)(hi:i<l.length)(hroom:l.length+1<=b)(_hH:H<=w.heap.size)(hown:w.ownsRow H 92 3 (.slice (some ⟨g,0,none⟩) l.length b) l.length (l.flatMap Dw.cells))(n:Bx w vb 92 #[.int .i64 x.a,.int .u64 (x.v:Int),.bool x.f])(hvb:vb≠g):
 Calls prog 228 #[.slice (some ⟨g,0,none⟩) l.length b,.int .i64 (i:Int),.slice (some ⟨vb,0,none⟩) 1 1] w λe w'=>Cu l i x H (some g) w e w':=by
 obtain⟨u,p,Z,hle,D,B,I⟩:=ng hown;have T:(l.flatMap Dw.cells).length=l.length*3:=ci Dw.cells 3 Dw.len l;have hc63:b<=9223372036854775807:=by unfold maxLen at D;exact D
 have Ja:∀o lb Y,(callFunc 269 #[.slice (some ⟨vb,0,none⟩) 1 1,.slice (some ⟨g,o,none⟩) lb Y]).run prog w=.ok (.value (.bool false)) w:=λo lb Y=>by
  rw[run_callFunc_extern func269 (by kernel_rfl) (by kernel_rfl) (by kernel_rfl) (e:=Extern.SlicesOverlaps.overlaps #[77,77] #[4]) (by kernel_rfl),
   Lib.run_overlaps_apart w 77 4 92 underlying77 3 (λw=>by kernel_rfl) ⟨vb,0,none⟩ ⟨g,o,none⟩ 1 1 lb Y hvb 92 92 3 (b*3) (by simp[World.shape?,show w.heap[vb]? = _ from n]) (by simp[World.shape?,p,B]) (by omega) (by rw[n.frozen]) (by rw[n.frozen])]
  rfl
 have r:∀j v,u[j]? = some v->w.cell? ⟨g,j,none⟩=some v:=λj v c=>by
  simp[World.cell?,p,c]
 have m:∀j,j<b*3->(w.cell? ⟨g,j,none⟩).isSome=true:=λj c=>by
  rw[r j (u[j]'(by omega)) (kql _)];rfl
 have E:∀j,w.frozen? ⟨g,j,none⟩=false:=λj=>by
  simp[World.frozen?,p]
 have t:∀v∈l.flatMap Dw.cells,v.oneCell'=true:=λv n=>by
  obtain⟨y,-,hy⟩:=kk4.1 n;simp only[Dw.cells,kqt,kzb,or_false] at hy;rcases hy with rfl|rfl|rfl<;>rfl
 have F:∀j v,(l.flatMap Dw.cells)[j]? = some v->w.cell? ⟨g,j,none⟩=some v:=λj v c=>by
  apply r;rw[<-I] at c;have:=kkr (l:=u) (i:=l.length*3) (j:=j);rw[this] at c;split at c
  .exact c
  cases c
 obtain⟨S,z⟩:=xq (l.flatMap Dw.cells);obtain⟨X,P⟩:=xq (u.take ((l.length+1)*3));have q:w.drew.ownsRow H 92 3 (.slice (some ⟨g,0,none⟩) (l.length+1) b) (l.length+1) X:=by
  refine⟨by rw[<-P,kq3];omega,Or.inr ⟨g,b,u.toArray,rfl,Z,p,hroom,D,by simpa using B,?_⟩⟩
  simpa using P
 have K:X=S++X.drop (l.length*3):=by
  have O:X.take (l.length*3)=S:=by rw[<-P,kj6,kxa (by omega),<-z];exact I
  rw[<-O,kz9]
 have Q:(X.drop (l.length*3)).length=3:=by rw[kzj,<-P,kq3];omega
 rw[z] at T t F;have N:(S.drop (i*3)).length=(l.length-i)*3:=by rw[kzj,T];omega
 have s:∀G b U,(Builtin.copy_ #[77,77] G #[.slice (some ⟨g,(i+1)*3,none⟩) (l.length-i) b,.slice (some ⟨g,i*3,none⟩) (l.length+1-i) U]).run prog w.drew=.ok (goInt ((l.length-i:Nat):Int)) (w.drew.setCells g ((i+1)*3) (S.drop (i*3))):=λG b U =>
  fQ w.drew 77 77 G 92 3 (l.length-i) g ((i+1)*3) (l.length-i) b ⟨g,i*3,none⟩ (l.length+1-i) U (S.drop (i*3)) underlying77 (by kernel_rfl) (by simp only[Nat.min_def];split<;>omega) N
   (λj v c=>by rw[f8];exact F (i*3+j) v (by rwa [kxy] at c))
   (λj c=>m _ (by omega)) (λj c=>E _) (λv n=>t v (kx1 n))
 obtain⟨C,d⟩:∃C,C=w.drew.setCells g ((i+1)*3) (S.drop (i*3)):=⟨_,rfl⟩;have A:∀k,k<b*3->(C.cell? ⟨g,k,none⟩).isSome=true:=λk hk=>by
  rw[d];exact World.isSome_setCells g _ _ _ _ (m k hk)
 have J:∀(W:World),(∀x,W.cell? x=C.cell? x)->(∀x,W.frozen? x=C.frozen? x)->∀G b,(Builtin.copy_ #[77,77] G #[.slice (some ⟨g,i*3,none⟩) (l.length+1-i) b,.slice (some ⟨vb,0,none⟩) 1 1]).run prog W=.ok (goInt 1) (W.setCells g (i*3) x.cells):=λW L R G b =>
  fQ W 77 77 G 92 3 1 g (i*3) (l.length+1-i) b ⟨vb,0,none⟩ 1 1 x.cells underlying77 (by kernel_rfl) (by simp only[Nat.min_def];split<;>omega) rfl
   (λj v c=>by
    rw[f8,kxd,L,d,kxu g _ _ _ _ (λh _=>absurd h hvb)];exact (n.cell j).trans (by simpa [Dw.cells] using c))
   (λj c=>by rw[L];exact A _ (by have:x.cells.length=3:=rfl;omega)) (λj c=>by rw[R,d,World.frozen?_setCells];exact E _) (λv n=>by
    simp only[Dw.cells,kqt,kzb,or_false] at n;rcases n with rfl|rfl|rfl<;>rfl)
 have M:Hid ((C.setCells g (i*3) x.cells).ownsRow H 92 3 (.slice (some ⟨g,0,none⟩) (l.length+1) b) (l.length+1) ((l.take i++x::l.drop i).flatMap Dw.cells)):=hid (by
  have O:=cU x.cells (i*3) _ _ (cU (S.drop (i*3)) ((i+1)*3) _ _ q);rw[<-d] at O;have e1:(i+1)*3=i*3+3:=by omega
  rw[e1,DC (o:=i*3) (k:=3) (V:=x.cells) K (by omega) rfl Q] at O;rw[rq,z];exact O)
 have Eq:Hid (w.grownBy (C.setCells g (i*3) x.cells) (some g)):=hid (by
  rw[d];exact eB (eB (dD (kjc (kqk _ w)))))
 rw[<-d] at s;have hz1:¬ ((i:Int)=(l.length:Int)):=by omega
 have hb2:¬ (b=i+1):=by omega
 have hb4:¬ (b=i):=by omega
 have hin:i<=l.length:=by omega
 have hw1:IntKind.i64.wrap ((i:Int)+1)=(i:Int)+1:=by rw[IntKind.wrap_i64];omega
 have hw2:IntKind.i64.wrap ((l.length:Int)+1)=(l.length:Int)+1:=by rw[IntKind.wrap_i64];omega
 have hb3:(i:Int)<=(l.length:Int)+1:=by omega
 have hb5:(i:Int)+1<=(l.length:Int)+1:=by omega
 have hb1:(0:Int)<=(i:Int)+1:=by omega
 have htn:((i:Int)+1).toNat=i+1:=by omega
 have htm:((l.length:Int)+1).toNat=l.length+1:=by omega
 have mixed:prog.follows .mixedOrders=true:=by kernel_rfl
 clear d hown n I B p r m E t F P q K Q T N A z;go_enter func228,ntmps228;go_wp2_with (simp only[Ja])
 go_region_law_o (refine step_copy_runI rfl _ _ 77 77 rfl _ _ (by simp[Act.eval,Act.put]) (by simp[Act.eval,Act.put]) (s _ _ _) ?_)
 clear s;go_wp2_with ((with_reducible refine nt ?_);refine wpList_copy_runI _ rfl _ _ 77 77 rfl _ _ rfl rfl (J _ (λ_=>rfl) (λ_=>rfl) _ _) ?_);go_ret;exact⟨⟨_,_,rfl,M.out⟩,Eq.out⟩
theorem BR{T D:List Value}(hx:X=T++R)(hT:T.length=o)(hV:V.length=k)(hR:R.length=k+D.length):rG (rG X o V) (o+k) D=T++(V++D):=by
 subst hx;have a:rG (T++R) o V=T++(V++R.drop k):=by rw[lm _ _ _ (by rw[kqs,hT,hV,hR];omega),kz7 (by omega),kq5 (by omega),kk5,kx5 (by omega),kzv,hT,hV];congr 2;congr 1;omega
 rw[a,lm _ _ _ (by simp only[kqs,kzj,hT,hV,hR];omega)];have b:(T++(V++R.drop k)).drop (o+k+D.length)=[]:=kx5 (by simp only[kqs,kzj,hT,hV,hR];omega);rw[b,kzr,<-kxs,kz7 (by rw[kqs];omega),kq5 (by rw[kqs];omega),kxs]
theorem jz(vs:Array Value)(n:Nat):(Builtin.zeroCells vs n).toList.length=n*vs.size:=by simp[Builtin.zeroCells]
theorem y9(g:Nat)(l:List Dw)(i:Nat)(x:Dw)(vb H:Nat)(w:World)(hm:l.length<=1000000)(hi:i<l.length)(hH:H<=w.heap.size)(hown:w.ownsRow H 92 3 (.slice (some ⟨g,0,none⟩) l.length l.length) l.length (l.flatMap Dw.cells))(A:Bx w vb 92 #[.int .i64 x.a,.int .u64 (x.v:Int),.bool x.f]):
 Calls prog 228 #[.slice (some ⟨g,0,none⟩) l.length l.length,.int .i64 (i:Int),.slice (some ⟨vb,0,none⟩) 1 1] w λe w'=>Cu l i x H (some g) w e w':=by
 obtain⟨cur,R,hHg,hle,hmx,Jc,Q⟩:=ng hown;have hS:(l.flatMap Dw.cells).length=l.length*3:=ci Dw.cells 3 Dw.len l;have Jh:cur=l.flatMap Dw.cells:=by rw[<-Q,kq5 (by omega)]
 subst Jh;have z:∀j v,(l.flatMap Dw.cells)[j]? = some v->w.cell? ⟨g,j,none⟩=some v:=λj v m=>by
  simp[World.cell?,R,m]
 have u:∀v∈l.flatMap Dw.cells,v.oneCell'=true:=λv A=>by
  obtain⟨y,-,hy⟩:=kk4.1 A;simp only[Dw.cells,kqt,kzb,or_false] at hy;rcases hy with rfl|rfl|rfl<;>rfl
 obtain⟨S,F⟩:=xq (l.flatMap Dw.cells);have Ji:g<w.heap.size:=by have N:=z 0 ((l.flatMap Dw.cells)[0]'(by omega)) (kql _);exact block_lt_of_cell N
 have Jf:vb<w.heap.size:=block_lt_of_cell (v:=.int .i64 x.a) ((A.cell 0).trans (by simp));obtain⟨i0,P,E,U,K⟩:=kzw Aq;have Y:(l.length:Int)+1-(i:Int)=((l.length+1-i:Nat):Int):=by omega
 have D:i+(l.length+1-i)=l.length+1:=by omega
 rw[F] at hS u z;have d:(S.take (i*3)).length=i*3:=by rw[kq3];omega
 have L:(S.drop (i*3)).length=(l.length-i)*3:=by rw[kzj,hS];omega
 have B:(Builtin.firstCells i0.size i (.slice (some ⟨g,0,none⟩) i l.length)).run prog w.drew=.ok (S.take (i*3)).toArray w.drew:=by
  rw[U];exact run_firstCells_some w.drew 3 i ⟨g,0,none⟩ i l.length (S.take (i*3)) d (λj v m=>by
   rw[f8,kxd];rw[kkr] at m;split at m
   .exact z j v m
   cases m)
 obtain⟨Z,hZ⟩:∃Z:Value,Z=.agg #[.int .i64 0,.int .u64 0,.bool false]:=⟨_,rfl⟩;rw[<-hZ] at E;have p:Z.cells.size=3:=by rw[hZ];rfl
 obtain⟨G,hG⟩:∃G,G=grownCap w (l.length+1) l.length 92:=⟨_,rfl⟩;have J:∀r,(Builtin.append_ #[77,3] r #[.slice (some ⟨g,0,none⟩) i l.length,.int .i64 ((l.length:Int)+1-(i:Int))]).run prog w =
  .ok (.slice (some ⟨w.heap.size,0,none⟩) (l.length+1) G) (w.drew.alloc (.cells ((S.take (i*3)).toArray++Builtin.zeroCells Z.cells (l.length+1-i)++Builtin.zeroCells Z.cells (G-(l.length+1))) 92)):=λr=>by
  have h:=Lib.run_append_grow_zeros w 77 3 r 92 i0 _ .i64 .i64 underlying77 underlying3 P E (some ⟨g,0,none⟩) i l.length (S.take (i*3)) B (l.length+1-i) (by omega) (by omega) (by omega) (by omega) (by rw[K];omega) (by rw[K,D];exact growslice_fits (by omega) (by omega));rw[D,<-hG] at h;rw[Y];exact h
 have Jo:l.length+1<=G:=by rw[hG];exact grownCap_ge w _ _ _
 have Jb:G<=maxLen:=by rw[hG];exact grownCap_le_maxLen w (l.length+1) l.length 92 (by unfold maxLen;omega)
 have hG63:G<=9223372036854775807:=by unfold maxLen at Jb;omega
 obtain⟨b,n⟩:∃b:Array Value,b=(S.take (i*3)).toArray++Builtin.zeroCells Z.cells (l.length+1-i)++Builtin.zeroCells Z.cells (G-(l.length+1)):=⟨_,rfl⟩;rw[<-n] at J;have X:b.size=G*3:=by
  have N:b.toList.length=G*3:=by rw[n];simp only[Array.toList_append,kqs,jz,p,d];omega
  simpa using N
 have Eq:b.toList.take ((l.length+1)*3)=S.take (i*3)++(Builtin.zeroCells Z.cells (l.length+1-i)).toList:=by rw[n];simp only[Array.toList_append];rw[kz7 (by simp only[kqs,jz,p,d];omega),kq5 (by simp only[kqs,jz,p,d];omega)]
 obtain⟨q,c⟩:∃q,q=w.drew.alloc (.cells b 92):=⟨_,rfl⟩;have t:∀W:World,W.heap=q.heap->W.ownsRow H 92 3 (.slice (some ⟨w.heap.size,0,none⟩) (l.length+1) G) (l.length+1) (S.take (i*3)++(Builtin.zeroCells Z.cells (l.length+1-i)).toList):=λW hW=>by
  refine⟨by simp only[kqs,jz,p,d];omega,Or.inr ⟨w.heap.size,G,b,rfl,hH,?_,Jo,Jb,X,Eq⟩⟩;rw[hW,c];show (w.heap.push (Obj.cells b 92 (0,0)))[w.heap.size]? = _;simp
 have hN:∀j,j<(l.length+1)*3->(q.cell? ⟨w.heap.size,j,none⟩).isSome=true:=λj m=>by
  rw[c,World.cell?_alloc_at (w:=w.drew) b _ w.heap.size j rfl,kja (by omega)];rfl
 have T:∀j,q.frozen? ⟨w.heap.size,j,none⟩=false:=λj=>by rw[c];exact World.frozen?_alloc_at (w:=w.drew) b _ w.heap.size j rfl
 have Jd:∀j v,w.cell? ⟨g,j,none⟩=some v->q.cell? ⟨g,j,none⟩=some v:=λj v h=>by rw[c,World.cell?_alloc_past (w:=w.drew) _ g j Ji];exact h
 have Jk:∀j v,w.cell? ⟨vb,j,none⟩=some v->q.cell? ⟨vb,j,none⟩=some v:=λj v h=>by rw[c,World.cell?_alloc_past (w:=w.drew) _ vb j Jf];exact h
 have Ja:∀(W:World),(∀x,W.cell? x=q.cell? x)->(∀x,W.frozen? x=q.frozen? x)->∀r M,(Builtin.copy_ #[77,77] r #[.slice (some ⟨w.heap.size,i*3,none⟩) (l.length+1-i) M,.slice (some ⟨vb,0,none⟩) 1 1]).run prog W=.ok (goInt 1) (W.setCells w.heap.size (i*3) x.cells):=λW s I r M =>
  fQ W 77 77 r 92 3 1 w.heap.size (i*3) (l.length+1-i) M ⟨vb,0,none⟩ 1 1 x.cells underlying77 (by kernel_rfl) (by simp only[Nat.min_def];split<;>omega) rfl
   (λj v m=>by
    rw[f8,kxd,s];exact Jk _ v ((A.cell j).trans (by simpa [Dw.cells] using m)))
   (λj m=>by rw[s];exact hN _ (by have:x.cells.length=3:=rfl;omega)) (λj m=>by rw[I];exact T _) (λv A=>by
    simp only[Dw.cells,kqt,kzb,or_false] at A;rcases A with rfl|rfl|rfl<;>rfl)
 have Jg:g≠w.heap.size:=by omega
 have C:∀(W:World),(∀y,W.cell? y=(q.setCells w.heap.size (i*3) x.cells).cell? y)->(∀y,W.frozen? y=(q.setCells w.heap.size (i*3) x.cells).frozen? y)->∀r M sc,(Builtin.copy_ #[77,77] r #[.slice (some ⟨w.heap.size,(i+1)*3,none⟩) (l.length-i) M,.slice (some ⟨g,i*3,none⟩) (l.length-i) sc]).run prog W=.ok (goInt ((l.length-i:Nat):Int)) (W.setCells w.heap.size ((i+1)*3) (S.drop (i*3))):=λW s I r M sc =>
  fQ W 77 77 r 92 3 (l.length-i) w.heap.size ((i+1)*3) (l.length-i) M ⟨g,i*3,none⟩ (l.length-i) sc (S.drop (i*3)) underlying77 (by kernel_rfl) (by simp only[Nat.min_def];split<;>omega) L
   (λj v m=>by
    rw[f8,s,kxu _ _ _ _ _ (λh _=>absurd h Jg)];exact Jd _ v (z (i*3+j) v (by rwa [kxy] at m)))
   (λj m=>by rw[s];exact World.isSome_setCells _ _ _ _ _ (hN _ (by omega)))
   (λj m=>by rw[I,World.frozen?_setCells];exact T _) (λv A=>u v (kx1 A))
 have O:Hid (((((w.alloc (.cells b 92)).drew.setCells w.heap.size (i*3) x.cells).drew).setCells w.heap.size ((i+1)*3) (S.drop (i*3))).ownsRow H 92 3 (.slice (some ⟨w.heap.size,0,none⟩) (l.length+1) G) (l.length+1) ((l.take i++x::l.drop i).flatMap Dw.cells)):=hid (by
  have h0:=cU x.cells (i*3) _ _ (t (w.alloc (.cells b 92)).drew (by rw[c];rfl));have N:=cU (S.drop (i*3)) ((i+1)*3) _ _ (show (((w.alloc (.cells b 92)).drew.setCells w.heap.size (i*3) x.cells).drew).ownsRow H 92 3 _ _ _ from h0);have e1:(i+1)*3=i*3+3:=by omega
  rw[e1,BR (o:=i*3) (k:=3) (V:=x.cells) rfl d rfl (by rw[jz,p,L];omega)] at N;rw[rq,F,e1];exact N)
 have Jj:Hid (w.grownBy ((((w.alloc (.cells b 92)).drew.setCells w.heap.size (i*3) x.cells).drew).setCells w.heap.size ((i+1)*3) (S.drop (i*3))) (some g)):=hid (dD (aU (kqa _) _ (kjc (aU (kqa _) _ (kjc (kje (kqk _ w) (kqa _) _))))));rw[<-c] at J;subst c;have Je:∀x,((w.alloc (.cells b 92)).drew).cell? x=(w.drew.alloc (.cells b 92)).cell? x:=λx=>rfl;have Jm:∀x,((w.alloc (.cells b 92)).drew).frozen? x=(w.drew.alloc (.cells b 92)).frozen? x:=λx=>rfl;have Jl:∀y,(((w.alloc (.cells b 92)).drew.setCells w.heap.size (i*3) x.cells).drew).cell? y=((w.drew.alloc (.cells b 92)).setCells w.heap.size (i*3) x.cells).cell? y:=λy=>rfl;have Jp:∀y,(((w.alloc (.cells b 92)).drew.setCells w.heap.size (i*3) x.cells).drew).frozen? y=((w.drew.alloc (.cells b 92)).setCells w.heap.size (i*3) x.cells).frozen? y:=λy=>rfl;have hz1:¬ ((i:Int)=(l.length:Int)):=by omega
 have hz3:(l.length:Int)<(l.length:Int)+1:=by omega
 have hGi:¬ (G=i):=by omega
 have hGim:¬ (G=i+1):=by omega
 have hci:¬ (l.length=i):=by omega
 have hin:i<=l.length:=by omega
 have hw1:IntKind.i64.wrap ((i:Int)+1)=(i:Int)+1:=by rw[IntKind.wrap_i64];omega
 have hw2:IntKind.i64.wrap ((l.length:Int)+1)=(l.length:Int)+1:=by rw[IntKind.wrap_i64];omega
 have hw3:IntKind.i64.wrap ((l.length:Int)+1-(i:Int))=(l.length:Int)+1-(i:Int):=by rw[IntKind.wrap_i64];omega
 have hb3:(i:Int)<=(l.length:Int):=by omega
 have hb5:(i:Int)+1<=(l.length:Int)+1:=by omega
 have hb1:(0:Int)<=(i:Int)+1:=by omega
 have htn:((i:Int)+1).toNat=i+1:=by omega
 have htm:((l.length:Int)+1).toNat=l.length+1:=by omega
 have mixed:prog.follows .mixedOrders=true:=by kernel_rfl
 clear hown A Q Jc R u z hS L F Y D B n hG X Eq t p hZ E U K P d;go_enter func228,ntmps228;go_wp2_with (first
  | ((with_reducible refine nt ?_);refine wpList_copy_runI _ rfl _ _ 77 77 rfl _ _ rfl rfl (Ja _ Je Jm _ _) ?_)
  | ((with_reducible refine nt ?_);refine wpList_copy_runI _ rfl _ _ 77 77 rfl _ _ rfl rfl (C _ (λ_=>rfl) (λ_=>rfl) _ _ _) ?_)
  | (at_builtin;refine Lib.wpList_append_run _ rfl _ _ _ _ rfl _ _ rfl rfl _ _ (J _) ?_))
 go_region_law_o (refine step_copy_runI rfl _ _ 77 77 rfl (.slice (some ⟨w.heap.size,(i+1)*3,none⟩) (l.length-i) (G-(i+1))) (.slice (some ⟨g,i*3,none⟩) (l.length-i) (l.length-i)) (by simp[Act.eval,Act.put]) (by simp[Act.eval,Act.put]) (C _ Jl Jp 3 (G-(i+1)) (l.length-i)) ?_)
 go_wp2;go_ret;exact⟨⟨_,_,rfl,O.out⟩,Jj.out⟩
theorem ins_c(DA:Option Addr)(l:List Dw)(dc i:Nat)(x:Dw)(vb H:Nat)(w:World)(hm:l.length<=1000000)(hi:i<=l.length)(hH:H<=w.heap.size)(hown:w.ownsRow H 92 3 (.slice DA l.length dc) l.length (l.flatMap Dw.cells))(hv:Bx w vb 92 #[.int .i64 x.a,.int .u64 (x.v:Int),.bool x.f])(hvb:(Value.slice DA l.length dc).ownBlock≠some vb):
 Calls prog 228 #[.slice DA l.length dc,.int .i64 (i:Int),.slice (some ⟨vb,0,none⟩) 1 1] w λe w'=>Cu l i x H (Value.slice DA l.length dc).ownBlock w e w':=by
 by_cases d:i=l.length
 .subst d;exact Dq DA l dc x vb H w hm hH hown hv
 have c:i<l.length:=by omega
 obtain⟨g,c9,b⟩:=fj hown (by omega);injection b with h2 h3 h4;subst h2;subst h4;have j:vb≠g:=λh=>hvb (by rw[h];rfl);by_cases k:l.length+1<=dc
 .exact Ft g l dc i x vb H w hm c k hH hown hv j
 have hc:=co hown;have:dc=l.length:=by omega
 subst this;exact y9 g l i x vb H w hm c hH hown hv
theorem EH{H sz:Nat}{e:TypeId}{v:Value}{xs:List Value}(h:w.ownsRow H e sz v n xs):v.ownBlock≠some w.heap.size:=by
 rcases h.2 with⟨rfl,-⟩|⟨g,cap,cur,rfl,-,a,-⟩
 .intro h;cases h
 intro c;have b:g=w.heap.size:=by injection c
 subst b;simp at a
theorem Au(l:List Dw)(i:Nat)(x:Dw)(hi:i<l.length):rG (l.flatMap Dw.cells) (i*3) x.cells=(l.set i x).flatMap Dw.cells:=by have b:=ci Dw.cells 3 Dw.len l;have a:x.cells.length=3:=rfl;rw[lm _ _ _ (by rw[b,a];omega),List.set_eq_take_append_cons_drop,if_pos hi,kxf,kzp,fB Dw.cells 3 Dw.len,qD Dw.cells 3 Dw.len,a];rw[show (i+1)*3=i*3+3 by omega]
theorem xM(A DA:Option Addr)(im:List Nat)(dw:List Dw)(lf:Int)(dn:Bool)(n c m dc a v:Nat)(w:World)(hn:im.length=n)(hm:dw.length=m)(hok:fX ⟨im,dw,lf,dn⟩=true)(ha:a<n)(_hv:v<18446744073709551616)(hm2:m<=1000000)(hi:RdW w w.heap.size A im)(hr:RdQ w w.heap.size DA dw):
 Calls prog 180 #[.agg #[.slice A n c,.slice DA m dc,.int .i64 lf,.bool dn],.int .i64 (a:Int),.int .u64 (v:Int)] w λe w'=>(∃u,e=.returned (.tuple #[u,.int .i64 0])/\ls w' w.heap.size (dvS ⟨im,dw,lf,dn⟩ (a:Int) v) u)/\Below w.heap.size w w':=by
 have Q:=(ch _).1 hok;have hs:=(ae _).1 Q.1;dsimp only at hs;have Jm : -1<=lf/\lf<=1000000:=⟨Q.2.1,Q.2.2.1⟩;have Jb:=Q.2.2.2.2;dsimp only at Jb;have Ka:=hid (inc_of Jb);have Jc:=hid (λW (h:RdQ W W.heap.size DA dw)=>EM A DA im dw lf dn n c m dc (a:Int) W hn hm (by omega) (by omega) h);rw[AH hok (by omega) (by dsimp only;omega)] at Jc;have x:=hid (λW (h:RdW W W.heap.size A im) (h2:RdQ W W.heap.size DA dw)=>mX A DA im dw lf dn n c m dc W hn hm (by omega) (by omega) (by omega) Jm h h2);unfold ls at x;rw[(om _).1,(om _).2] at x;dsimp only at x;rw[hn,hm] at x;have HR:=hid hi;have HQ:=hid hr;obtain⟨W0,Kl,x0,x1,Jk,Kf⟩:=mF w A DA lf dn n c m dc;have X0:=hid x0;have X1:=hid x1;have Ji:=hid Jk;have q:=hid hn;have Je:=hid hm;obtain⟨q0,q1,q2,q3,-,-,-,-,hg⟩:=x0.c4;have Jl:w.heap.size<=W0.heap.size:=by omega
 have Kj:w.heap.size+1<W0.heap.size:=by omega
 have Jr:w.heap.size+1≠w.heap.size:=by omega
 have hn3:n<=2048:=by omega
 clear hi hr x0 x1 Jk Kf hn hm Q hs Jb hok;go_enter func180,ntmps180;go_wp2_with fail;clear Kl;refine (Jc.out W0 (HQ.out.up Ji.out Jl)).mono ?_;rintro e w1 ⟨rfl,G⟩;have x0:=X0.out.up G hg;have f:=hid (Ji.out.trans (G.mono Jl));have hz1:=G.size;obtain⟨p0,p1,p2,p3,-,-,-,-,l⟩:=x0.c4;have Y0:=hid x0;have Y1:=hid (X1.out.up G Kj);have b:w.heap.size+1<w1.heap.size:=by omega
 clear x0 G q0 q1 q2 q3;go_wp2_with fail;refine (x.out w1 (HR.out.up f.out f.out.size) (HQ.out.up f.out f.out.size)).mono ?_;rintro e w2 ⟨⟨_,rfl,J,I,y,s,rfl,X,Jo,Jh⟩,E⟩;have Jf:=hid Jo;have L:=hid Jh;have Z0:=hid (Y0.out.up E l);have Z1:=hid (Y1.out.up E b);have Jd:=hid (f.out.trans (E.mono f.out.size));have Kd:=E.size;clear E Jo Jh p0 p1 p2 p3;by_cases H:lf=0
 .subst H;have HV:Hid (dvS ⟨im,dw,0,dn⟩ (a:Int) v=⟨im,dw,0,true⟩):=hid (by unfold dvS dvD;rw[if_pos rfl]);rw[pR rfl,show decide ((0:Int)≠0)=false from rfl];unfold dvD;dsimp only;go_wp2_with (first
   | ((with_reducible refine aq 79 (.tmp 3) _ ?_);refine stD Z0.out ?_;intro K Z d)
   | ((with_reducible refine aH 79 (.tmp 3) ?_);refine ldD Z.out ?_)
   | ((with_reducible refine aq 79 (.tmp 6) _ ?_);refine stD (d.out.bx Z1.out Jr) ?_;intro w9 D j))
  refine kqr (v:=.tuple #[.agg #[.slice J n I,.slice y m s,.int .i64 0,.bool true],.int .i64 0]) (a8 results180 _ D.out rfl rfl rfl) rfl ⟨⟨_,rfl,by
   rw[HV.out];exact⟨J,I,y,s,by rw[q.out,Je.out],by rw[q.out];exact X,by rw[q.out];exact am (ao (ao Jf.out d.out l) j.out b) f.out.size,by rw[Je.out];exact am (ao (ao L.out d.out l) j.out b) f.out.size⟩⟩,j.out.below (d.out.below Jd.out (kqa _)) (by omega)⟩
 have ed:decide (lf≠0)=true:=by rw[kq0];exact H
 have HV:Hid (dvS ⟨im,dw,lf,dn⟩ (a:Int) v=⟨im,stQ dw (a:Int) v,dec lf,dn⟩):=hid (by unfold dvS;rw[if_neg H]);have Jq:dvB ⟨im,dw,lf,dn⟩=⟨im,dw,dec lf,dn⟩:=by unfold dvB;rw[if_neg H]
 rw[ed,Jq];dsimp only;obtain⟨l2,Jz⟩:=xq (dec lf);rw[Jz] at HV |-;subst Je;clear Jz Jq ed H Jm;go_wp2_with (first
  | (((with_reducible refine aq 79 (.tmp 3) _ ?_);refine stD Z0.out ?_;intro K Z d);obtain⟨s0,s1,s2,s3,M,N,O,P,U⟩:=Z.out.c4)
  | ((with_reducible refine aH 79 (.tmp 3) ?_);refine ldD Z.out ?_))
 have Kh:w.heap.size<K.heap.size:=Z.out.lt;have Ju:w.heap.size+1<K.heap.size:=by have:=d.out.1;omega
 have YD:=hid (Bx.new K 92 #[.int .i64 (a:Int),.int .u64 (v:Int),.bool false]);have V0:=hid (Z.out.alloc (.cells #[.int .i64 (a:Int),.int .u64 (v:Int),.bool false] 92));have V1:=hid ((d.out.bx Z1.out Jr).alloc (.cells #[.int .i64 (a:Int),.int .u64 (v:Int),.bool false] 92));have VO:=hid ((ao Jf.out d.out l).alloc (.cells #[.int .i64 (a:Int),.int .u64 (v:Int),.bool false] 92));have VQ:=hid ((ao L.out d.out l).alloc (.cells #[.int .i64 (a:Int),.int .u64 (v:Int),.bool false] 92));have Jv:=hid (EH (ao L.out d.out l));have VB:=hid ((d.out.below Jd.out (kqa _)).alloc (by omega) (.cells #[.int .i64 (a:Int),.int .u64 (v:Int),.bool false] 92));have R:(K.alloc (.cells #[.int .i64 (a:Int),.int .u64 (v:Int),.bool false] 92)).heap.size=K.heap.size+1:=kqm _ _;have Jp:w1.heap.size<=K.heap.size:=by have:=d.out.1;omega
 obtain⟨b3,Jt⟩:=xq K.heap.size;obtain⟨w4,Jw⟩:∃w4,K.alloc (.cells #[.int .i64 (a:Int),.int .u64 (v:Int),.bool false] 92)=w4:=⟨_,rfl⟩;rw[Jt] at YD Jv R Kh Ju Jp |-;rw[Jw] at YD V0 V1 VO VQ VB R |-;clear Jw Jf L Jd Z0 Z1 d Kd s0 s1 s2 s3 M N O P U Z Jt;refine (Ce J y dw l2 dn n I dw.length s (a:Int) w4 rfl hm2 Ka.out (Rd.of_own VQ.out)).mono ?_;rintro e F ⟨⟨i,rfl,Ja⟩,r⟩;have X0:=hid (V0.out.up r (by omega));have X1:=hid (V1.out.up r (by omega));have XD:=hid (YD.out.up r (by omega));have XO:=hid (ak VO.out r (kqa _));have XQ:=hid (ak VQ.out r (kqa _));have XB:=hid (VB.out.trans (r.mono VB.out.size));have hz5:=r.size;have Kg:i<=dw.length:=Ja.1;have z:=hid (stQ_at (v:=v) Ja);clear r V0 V1 YD VO VQ VB Ja HR HQ Jc x;obtain⟨s0,s1,s2,s3,M,N,O,P,U⟩:=X0.out.c4;cases hf:uy dw (a:Int) i
 .rw[hf] at z;have Eq:=hid (show stQ dw (a:Int) v=dw.take i++⟨(a:Int),v,false⟩::dw.drop i by rw[z.out];simp);clear z hf;go_wp2_with (first
   | ((with_reducible refine aH 79 (.tmp 3) ?_);refine ldD X0.out ?_)
   | ((with_reducible refine aH 92 (.tmp 10) ?_);refine kxc rfl _ _ rfl b3 (by rfl) 92 _ (0,0) _ XD.out underlying92 (by rfl) (by kernel_rfl) ?_))
  have Jj:(F.alloc (.cells #[.int .i64 (a:Int),.int .u64 (v:Int),.bool false] 92)).heap.size=F.heap.size+1:=kqm _ _;have Z0:=hid (X0.out.alloc (.cells #[.int .i64 (a:Int),.int .u64 (v:Int),.bool false] 92));have Z1:=hid (X1.out.alloc (.cells #[.int .i64 (a:Int),.int .u64 (v:Int),.bool false] 92));have ZO:=hid (XO.out.alloc (.cells #[.int .i64 (a:Int),.int .u64 (v:Int),.bool false] 92));have ZQ:=hid (XQ.out.alloc (.cells #[.int .i64 (a:Int),.int .u64 (v:Int),.bool false] 92));have ZB:=hid (XB.out.alloc (by omega) (.cells #[.int .i64 (a:Int),.int .u64 (v:Int),.bool false] 92));have ZN:=hid (Bx.new F 92 #[.int .i64 (a:Int),.int .u64 (v:Int),.bool false]);have ZL:=hid (EH XQ.out);obtain⟨w6,C⟩:∃w6,F.alloc (.cells #[.int .i64 (a:Int),.int .u64 (v:Int),.bool false] 92)=w6:=⟨_,rfl⟩;rw[C] at Z0 Z1 ZO ZQ ZB ZN Jj |-;clear C s0 s1 s2 s3 M N O P;refine (ins_c y dw s i ⟨(a:Int),v,false⟩ F.heap.size w1.heap.size w6 hm2 Kg (by omega) ZQ.out ZN.out ZL.out).mono ?_;rintro e w7 ⟨⟨T,S,rfl,V⟩,o⟩;have t:∀k,k<w1.heap.size->some k≠(Value.slice y dw.length s).ownBlock:=λk Q=>bD ZQ.out Q;have Km:=o.size;have y0:Bx w7 w.heap.size _ _:=(o.block w.heap.size (by omega) (by first|exact t _ l|exact (t _ l).symm)).trans Z0.out
  have y1:Bx w7 (w.heap.size+1) _ _:=(o.block (w.heap.size+1) (by omega) (by first|exact t _ b|exact (t _ b).symm)).trans Z1.out;have yb:Below w.heap.size w w7:=ZB.out.trans ⟨o.os,o.tape,o.output,o.size,λk Q=>o.block k (by omega) (by first|exact t _ (by omega) | exact (t _ (by omega)).symm)⟩;have yo:=bp ZO.out o (fD ZO.out ZQ.out (by decide));have Y0:=hid (show Bx (w7.setCell ⟨w.heap.size,1,none⟩ (.slice T (dw.length+1) S)) w.heap.size 79 #[.slice J n I,.slice T (dw.length+1) S,.int .i64 l2,.bool dn] from y0.set_ 1 _);have Y1:=hid (y1.far (p:=⟨w.heap.size,1,none⟩) (show w.heap.size+1≠w.heap.size by omega) (.slice T (dw.length+1) S));have YO:=hid (au yo (p:=⟨w.heap.size,1,none⟩) (bD yo l).symm (.slice T (dw.length+1) S));have YQ:=hid (au V (p:=⟨w.heap.size,1,none⟩) (bD V l).symm (.slice T (dw.length+1) S));have YB:=hid (yb.setCell (p:=⟨w.heap.size,1,none⟩) (kqa _) (.slice T (dw.length+1) S));obtain⟨s0,s1,s2,s3,M,N,O,P,U⟩:=y0.c4;clear o V y0 y1 yb yo t Km;go_wp2_with (first
   | ((with_reducible refine aH 79 (.tmp 3) ?_);refine ldD Y0.out ?_)
   | ((with_reducible refine aq 79 (.tmp 6) _ ?_);refine stD Y1.out ?_;intro w9 D j))
  refine kqr (v:=.tuple #[.agg #[.slice J n I,.slice T (dw.length+1) S,.int .i64 l2,.bool dn],.int .i64 0]) (a8 results180 _ D.out rfl rfl rfl) rfl ⟨⟨_,rfl,by
   have Jy:(dw.take i++(⟨(a:Int),v,false⟩:Dw)::dw.drop i).length=dw.length+1:=by rw[kqs,kq1,kq3,kzj];omega
   rw[HV.out,Eq.out];unfold ls;dsimp only;rw[Jy];exact⟨J,I,T,S,by rw[q.out],by rw[q.out];exact X,by rw[q.out];exact am (ao YO.out j.out b) f.out.size,am (ao YQ.out j.out b) f.out.size⟩⟩,j.out.below YB.out (by omega)⟩
 rw[hf] at z;have Ki:i<dw.length:=by
  rcases kq6 i dw.length with h|h
  .exact h
  unfold uy at hf;rw[kzd h] at hf;cases hf
 have Eq:=hid (show stQ dw (a:Int) v=dw.set i ⟨(a:Int),v,false⟩ by rw[z.out,if_pos rfl]);clear z hf;obtain⟨g,c9,Jg⟩:=fj XQ.out (by omega);obtain⟨rfl,-,rfl⟩:y=some ⟨g,0,none⟩/\dw.length=dw.length/\s=c9:=by injection Jg with h1 h2 h3;exact⟨h1,h2,h3⟩
 have hgb:w1.heap.size<=g:=fR XQ.out;have hki:(i:Int)<(dw.length:Int):=by omega
 have hk0:(0:Int)<=(i:Int):=by omega
 have Kb:F.there g (i*3) (#[.int .i64 (a:Int),.int .u64 (v:Int),.bool false]:Array Value).size:=jb XQ.out (i*3) 3 (by omega);have Js:(prog.info? 92).map (·.size)=some (#[.int .i64 (a:Int),.int .u64 (v:Int),.bool false]:Array Value).size:=by kernel_rfl
 have Kc:(#[.int .i64 (a:Int),.int .u64 (v:Int),.bool false]:Array Value).all (·.oneCell')=true:=by simp[Value.oneCell']
 have hx:=cU (Dw.cells ⟨(a:Int),v,false⟩) (i*3) F _ XQ.out;rw[Au dw i _ Ki] at hx;have YQ:=hid hx;have YA:Hid (gY F (F.setCells g (i*3) (Dw.cells ⟨(a:Int),v,false⟩)) g):=hid ⟨cD _ _ _,λg' Ke=>dj Ke _ _ _,λB hB=>aU hB _ (kqk _ _)⟩;have YO:=hid (bp XO.out YA.out.grown (show (Value.slice J n I).ownBlock=none\/(Value.slice J n I).ownBlock≠some g from fD XO.out XQ.out (by decide)));have Y0:=hid (YA.out.bx X0.out (show w.heap.size≠g by omega));have Y1:=hid (YA.out.bx X1.out (show w.heap.size+1≠g by omega));have YB:=hid (YA.out.below XB.out (show w.heap.size<=g by omega));obtain⟨cs,Y⟩:∃cs:Array Value,#[.int .i64 (a:Int),.int .u64 (v:Int),.bool false]=cs:=⟨_,rfl⟩;obtain⟨w6,C⟩:∃w6,F.setCells g (i*3) (Dw.cells ⟨(a:Int),v,false⟩)=w6:=⟨_,rfl⟩;have Kk:F.setCells g (i*3) cs.toList=w6:=by rw[<-Y];exact C
 rw[C] at YQ YA YO Y0 Y1 YB;rw[Y] at Kb Js Kc;clear C hx Jg Jv;go_wp2_with (first
  | ((with_reducible refine aH 79 (.tmp 3) ?_);refine ldD X0.out ?_)
  | ((with_reducible refine aH 79 (.tmp 3) ?_);refine ldD Y0.out ?_)
  | ((with_reducible refine aH 92 (.tmp 10) ?_);refine kxc rfl _ _ rfl b3 (by rfl) 92 _ (0,0) _ XD.out underlying92 (by rfl) (by kernel_rfl) ?_)
  | ((with_reducible refine aq 92 (.tmp 42) _ ?_);refine kjh rfl _ _ _ rfl g (i*3) cs (by rfl) (by rw[<-Y];rfl) Kb Js Kc ?_;rw[Kk])
  | ((with_reducible refine aq 79 (.tmp 6) _ ?_);refine stD Y1.out ?_;intro w9 D j))
 refine kqr (v:=.tuple #[.agg #[.slice J n I,.slice (some ⟨g,0,none⟩) dw.length s,.int .i64 l2,.bool dn],.int .i64 0]) (a8 results180 _ D.out rfl rfl rfl) rfl ⟨⟨_,rfl,by
  rw[HV.out,Eq.out];exact⟨J,I,some ⟨g,0,none⟩,s,by rw[kq4,q.out],by rw[q.out];exact X,by rw[q.out];exact am (ao YO.out j.out b) f.out.size,by rw[kq4];exact am (ao YQ.out j.out b) f.out.size⟩⟩,j.out.below YB.out (by omega)⟩
end Go.Proofs.YtpcajamacpbjcaaGreat
