/- Devices: what the program returns (where a dirty word is, or would be). -/
import Derived.Test.YtpcajamacpbjcaaGreatZGA
import Derived.Test.YtpcajamacpbjcaaGreatZKWnt
import Derived.Shelf.Spec.SlicesInsertGrow
import Derived.Test.YtpcajamacpbjcaaGreatZKCo
set_option maxHeartbeats 16000000
set_option maxRecDepth 100000
set_option linter.all false
namespace Go.Proofs.YtpcajamacpbjcaaGreat
open Lib (hid)
open Go.RowKit
variable {R V X:List Value}{k n o:Nat}{w w':World}
open Go.Proofs.Tryz
def sJ (x y:Int):Int:=if x<y then -1 else if y<x then 1 else 0
theorem my(x:Int)(w:World):Calls prog 289 #[.int .i64 x] w λe w'=>e=.returned (.bool false)/\w=w':=by go_enter func289,ntmps289;go_wp2;go_ret;exact⟨by simp,rfl⟩
theorem Fo(x y:Int)(w:World):Calls prog 268 #[.int .i64 x,.int .i64 y] w λe w'=>e=.returned (.int .i64 (sJ x y))/\w=w':=by
 by_cases c:x<y
 .have b:Hid (sJ x y = -1):=hid (by unfold sJ;rw[if_pos c]);go_enter func268,ntmps268;go_wp2_with fail;refine (my x w).mono ?_;rintro e a ⟨rfl,rfl⟩;go_wp2_with fail;refine (my y w).mono ?_;rintro e a ⟨rfl,rfl⟩;go_wp2;go_ret;exact⟨by rw[b.out];rfl,rfl⟩
 by_cases d:y<x
 .have b:Hid (sJ x y=1):=hid (by unfold sJ;rw[if_neg c,if_pos d]);go_enter func268,ntmps268;go_wp2_with fail;refine (my x w).mono ?_;rintro e a ⟨rfl,rfl⟩;go_wp2_with fail;refine (my y w).mono ?_;rintro e a ⟨rfl,rfl⟩;go_wp2;go_ret;exact⟨by rw[b.out];rfl,rfl⟩
 have b:Hid (sJ x y=0):=hid (by unfold sJ;rw[if_neg c,if_neg d]);go_enter func268,ntmps268;go_wp2_with fail;refine (my x w).mono ?_;rintro e a ⟨rfl,rfl⟩;go_wp2_with fail;refine (my y w).mono ?_;rintro e a ⟨rfl,rfl⟩;go_wp2;go_ret;exact⟨by rw[b.out];rfl,rfl⟩
theorem JM(x a:Int)(v:Nat)(f:Bool)(w:World):Calls prog 267 #[.agg #[.int .i64 x,.int .u64 (v:Int),.bool f],.int .i64 a] w λe w'=>e=.returned (.int .i64 (sJ x a))/\Below w.heap.size w w':=by have b:=hid (λW=>Fo x a W);have d:=hid ((kqk w.heap.size w).alloc (kqa _) (.cells #[.int .i64 x,.int .u64 (v:Int),.bool f] 92));obtain⟨q,c⟩:=xq (sJ x a);rw[c] at b |-;clear c;go_enter func267,ntmps267;go_wp2_with fail;refine (b.out _).mono ?_;rintro e w1 ⟨rfl,rfl⟩;go_wp2;go_ret;exact⟨rfl,d.out⟩
def ET (l:List Dw) (a:Int) (i:Nat):Prop:=i<=l.length/\(∀k (h:k<l.length),k<i->l[k].a<a)/\∀k (h:k<l.length),i<=k->a<=l[k].a
def vG (l:List Dw) (a:Int) (i:Nat):Bool:=match l[i]? with | some e=>e.a==a | none=>false
def JC (l:List Dw) (a:Int) (e:Ending):Prop:=∃i:Nat,e=.returned (.tuple #[.int .i64 (i:Int),.bool (vG l a i)])/\ET l a i
theorem inc_of :∀ {l:List Dw} {b:Int},iM n l b=true->l.Pairwise (λx y=>x.a<y.a):=by
 intro l
 induction l with
 | nil=>intro b _;exact List.Pairwise.nil
 | cons e l ih =>intro b h;simp only[iM,kqu,kzd] at h;exact List.Pairwise.cons (λx c=>(gw h.2.2 x c).1) (ih h.2.2)
theorem uz(A:Option Addr)(l:List Dw)(c n:Nat)(a:Int)(w:World)(hn:l.length=n)(hm:n<=1000000)(hinc:l.Pairwise (λx y=>x.a<y.a))(hr:RdQ w w.heap.size A l):
 Calls prog 266 #[.slice A n c,.int .i64 a,.func (.func 267) #[] #[]] w λe w'=>JC l a e/\Below w.heap.size w w':=by
 subst hn;have HR:=hid hr;have HI:=hid (kzj.1 hinc);have M:=hid (λx v f W=>JM x a v f W);clear hr hinc;go_enter func266,ntmps266;go_wp2_with fail;go_loopw [9,10] (λi j wr=>∃p q:Nat,p<=q/\q<=l.length/\i=.int .i64 p/\j=.int .i64 q/\Hid (∀k (h:k<l.length),k<p->l[k].a<a)/\Hid (∀k (h:k<l.length),q<=k->a<=l[k].a)/\Below w.heap.size w wr) (λi j _=>(RowKit.intOf j).toNat-(RowKit.intOf i).toNat)
 case atStart=>exact⟨0,l.length,kqz _,kqa _,rfl,rfl,hid λk h h2=>by omega,hid λk h h2=>by omega,kqk _ _⟩
 obtain⟨p,q,hpq,J,rfl,rfl,HL,HU,B⟩:=hrel;have U:=B.size;by_cases hlt:p<q
 .have T:(p+q)/2<l.length:=by omega
  obtain⟨h,Q⟩:=xq ((p+q)/2);rw[Q] at T;have hph:p<=h:=by omega
  have hhq:h<q:=by omega
  have i1:IntKind.u64.wrap ((p:Int)+(q:Int))=((p+q:Nat):Int):=by rw[kzw _ (by omega)];omega
  have i2:((p+q:Nat):Int)/2=(h:Int):=by omega
  have i3:((p:Int)+(q:Int))/2=(h:Int):=by omega
  obtain⟨b,o,rfl,V,L,R,P⟩:=RdQ.at_ (show RdQ wr w.heap.size A l from HR.out.below B) T;have s:=hid (M.out l[h].a l[h].v l[h].f wr);have HX:=hid (λk (m:k<l.length) (u:k<h)=>HI.out k h m T u);have X:=hid (λk (m:k<l.length) (u:h<k)=>HI.out h k T m u);obtain⟨x,E⟩:=xq (l[h]);have F:=hid (show ∀k (m:k<l.length),k=h->l[k].a=x.a from λk m e=>by subst e;rw[E]);rw[E] at L R P s;simp only[E] at HX X;obtain⟨G,xv,xf⟩:=x;dsimp only at L R P s HX X F;have N:(h:Int)<(l.length:Int):=by omega
  have Eq:(0:Int)<=(h:Int):=by omega
  clear E Q;by_cases C:G<a
  .have r:sJ G a = -1:=by unfold sJ;rw[if_pos C]
   rw[r] at s;have Z:Hid (∀k (m:k<l.length),k<h+1->l[k].a<a):=hid λk m u=>by
    rcases kq7 k h with O|O
    .have:=HX.out k m O;omega
    have:=F.out k m (by omega);omega
   have H:=hid B;clear r C B;go_wp2_with fail;refine s.out.mono ?_;rintro e w5 ⟨rfl,d⟩;have t:=hid (H.out.trans (d.mono U));clear d;go_wp2;go_roundw
   case rel=>exact⟨h+1,q,by omega,J,by go_num,rfl,Z,HU,t.out⟩
   case measure=>simp[RowKit.intOf];omega
  have r:0<=sJ G a:=by unfold sJ;rw[if_neg C];split<;>omega
  obtain⟨I,z⟩:=xq (sJ G a);rw[z] at s r;have Y:Hid (∀k (m:k<l.length),h<=k->a<=l[k].a):=hid λk m u=>by
   rcases kq7 h k with O|O
   .have:=X.out k m O;omega
   have:=F.out k m (by omega);omega
  have hd:decide (I<0)=false:=by rw[kqh];omega
  have H:=hid B;clear z C B r;go_wp2_with fail;refine s.out.mono ?_;rintro e w5 ⟨rfl,d⟩;have t:=hid (H.out.trans (d.mono U));clear d;go_wp2;go_roundw
  case rel=>exact⟨p,h,by omega,by omega,rfl,by go_num,HL,Y,t.out⟩
  case measure=>simp[RowKit.intOf];omega
 obtain rfl:p=q:=by omega
 have HF:=hid (show ET l a p from ⟨J,HL.out,HU.out⟩);have H:=hid B;have hend:decide ((p:Int)<(p:Int))=false:=by rw[kqh];omega
 by_cases D:p<l.length
 .obtain ⟨b,o,rfl,V,L,R,P⟩:=RdQ.at_ (show RdQ wr w.heap.size A l from HR.out.below B) D;have s:=hid (M.out l[p].a l[p].v l[p].f wr);have g:vG l a p=(l[p].a==a):=by unfold vG;rw[kql D]
  obtain⟨x,E⟩:=xq (l[p]);rw[E] at L R P s g;obtain⟨G,xv,xf⟩:=x;dsimp only at L R P s g;have S:(sJ G a==0)=vG l a p:=by
   rw[g,kzl,kqx,kqx];unfold sJ;split
   .omega
   split<;>omega
  have K:=hid S;obtain⟨I,z⟩:=xq (sJ G a);rw[z] at s K;have N:(p:Int)<(l.length:Int):=by omega
  have Eq:(0:Int)<=(p:Int):=by omega
  clear E g S z B;go_wp2_with fail;refine s.out.mono ?_;rintro e w5 ⟨rfl,d⟩;have t:=hid (H.out.trans (d.mono U));clear d;go_wp2;go_ret2;exact⟨⟨p,by rw[<-K.out];rfl,HF.out⟩,t.out⟩
 have g:Hid (vG l a p=false):=hid (by unfold vG;rw[kzc (by omega)]);have N:decide ((p:Int)<(l.length:Int))=false:=by rw[kqh];omega
 have hkn:decide (p<l.length)=false:=by rw[kqh];exact D
 clear D B;go_wp2;go_ret2;exact⟨⟨p,by rw[g.out];rfl,HF.out⟩,H.out⟩
theorem FB(A DA:Option Addr)(dw:List Dw)(lf:Int)(dn:Bool)(n c m dc:Nat)(a:Int)(w:World)(hm:dw.length=m)(hm2:m<=1000000)(hinc:dw.Pairwise (λx y=>x.a<y.a))(hr:RdQ w w.heap.size DA dw):
 Calls prog 227 #[.agg #[.slice A n c,.slice DA m dc,.int .i64 lf,.bool dn],.int .i64 a] w λe w'=>JC dw a e/\Below w.heap.size w w':=by have f:=hid (λW (h:RdQ W W.heap.size DA dw)=>uz DA dw dc m a W hm hm2 hinc h);unfold JC at f |-;have b:=hid ((kqk w.heap.size w).alloc (kqa _) (.cells #[.slice A n c,.slice DA m dc,.int .i64 lf,.bool dn] 79));have j:=hid hr;clear hr hinc hm;go_enter func227,ntmps227;go_wp2_with fail;refine (f.out _ (j.out.up b.out b.out.size)).mono ?_;rintro e w1 ⟨⟨i,rfl,g⟩,d⟩;have k:=hid g;clear g;go_wp2;go_ret2;exact⟨⟨i,rfl,k.out⟩,b.out.trans (d.mono b.out.size)⟩
theorem stQ_at{a:Int}{v:Nat}:∀ {l:List Dw} {i:Nat},ET l a i->stQ l a v=if vG l a i=true then l.set i ⟨a,v,false⟩ else l.take i++⟨a,v,false⟩::l.drop i:=by
 intro l
 induction l with
 | nil =>
  intro i h;have:i=0:=by have:=h.1;simpa using this
  subst this;rfl
 | cons e l ih =>
  intro i h;cases i with
  | zero =>
   have g:=h.2.2 0 (by simp) (kqa _);simp only[kqd] at g;unfold stQ;rw[if_neg (by omega)];by_cases b:e.a=a
   .rw[if_pos b,if_pos (by unfold vG;simp[b])];rfl
   rw[if_neg b,if_neg (by unfold vG;simp[b])];rfl
  | succ i =>
   have f:=h.2.1 0 (by simp) (by omega);simp only[kqd] at f;have j:ET l a i:=by
    refine⟨by have:=h.1;simpa using this,λk d c=>?_,λk d c=>?_⟩
    .have:=h.2.1 (k+1) (by simpa using d) (by omega)
     simpa using this
    have:=h.2.2 (k+1) (by simpa using d) (by omega)
    simpa using this
   have m:vG (e::l) a (i+1)=vG l a i:=by unfold vG;simp
   unfold stQ;rw[if_pos f,ih j,m];split<;>rfl
theorem gu{P:Program}(w:World)(dT sT ty elem:TypeId)(sz k b o dLen dCap:Nat)(a:Addr)(sLen sCap:Nat)(cs:List Value)(hu:P.underlying dT=some (.slice elem))(hs:(P.info? elem).map (·.size)=some sz)(hk:Nat.min sLen dLen=k)(hn:cs.length=k*sz)(hsrc:∀j v,cs[j]? = some v->w.cell? (a.add j)=some v)(hc:∀j,j<cs.length->(w.cell? ⟨b,o+j,none⟩).isSome=true)(hf:∀j,j<cs.length->w.frozen? ⟨b,o+j,none⟩=false)(h1:∀v∈cs,v.oneCell'=true):
 (Builtin.copy_ #[dT,sT] ty #[.slice (some ⟨b,o,none⟩) dLen dCap,.slice (some a) sLen sCap]).run P w=.ok (goInt k) (w.setCells b o cs):=by
 have e:=run_loadCells_list (P:=P) w a cs hsrc;have c:=run_storeCells_cells (P:=P) b o cs 0 w (by simpa using hc) (by simpa using hf) h1;rw[hn] at e;cases d:P.info? elem with
 | none=>simp[d] at hs
 | some i =>
  have f:i.size=sz:=by simpa [d] using hs
  simp[Builtin.copy_,run_underlying hu,Builtin.lenOf,Builtin.firstCells,sizeOf,typeInfo,d,f,hk,e,c]
theorem mw:∀(vs xs:List Value) (o:Nat),o+vs.length<=xs.length->tQ xs o vs=xs.take o++(vs++xs.drop (o+vs.length)):=by
 intro vs
 induction vs with
 | nil=>intro xs o _;simp[tQ]
 | cons v vs ih =>
  intro xs o h;rw[kq2] at h;show tQ (xs.set o v) (o+1) vs=_;rw[ih _ _ (by rw[kq3];omega)];have b:(xs.set o v).take (o+1)=xs.take o++[v]:=by rw[kqp (by rw[kq3];omega),kvp (kqa _)];simp
  have a:(xs.set o v).drop (o+1+vs.length)=xs.drop (o+(vs.length+1)):=by rw[kvq (by omega)];congr 1;omega
  rw[b,a,kxo];rfl
theorem FG{S:List Value}(hx:X=S++R)(ho:o<=S.length)(hV:V.length=k)(hR:R.length=k):tQ (tQ X (o+k) (S.drop o)) o V=S.take o++(V++S.drop o):=by subst hx;have a:(S.drop o).length=S.length-o:=kzp;rw[mw (S.drop o) (S++R) (o+k) (by rw[kqs,a,hR];omega)];have b:(S++R).drop (o+k+(S.drop o).length)=[]:=kjg (by rw[kqs,a,hR];omega);rw[b,kzt,mw _ _ _ (by rw[kqs,kq4,kqs,a,hV,hR];omega)];rw[kxn (by rw[kq4,kqs,hR];omega),kkg,kxg (by omega),kxn ho];congr 2;rw[List.drop_append,kjg (by rw[kq4,kqs,hR,hV];omega),kz2,kq4,kqs,hR,hV,kxg (by omega),kvr];rfl
theorem tf(l:List Dw)(i:Nat)(x:Dw):(l.take i++x::l.drop i).flatMap Dw.cells=(l.flatMap Dw.cells).take (i*3)++(x.cells++(l.flatMap Dw.cells).drop (i*3)):=by rw[kxc,kzy,iV Dw.cells 3 Dw.len,sD Dw.cells 3 Dw.len]
theorem ew{r:Option Nat}(h:Below w.heap.size w w'):w.grownBy w' r:=⟨h.os,h.tape,h.output,h.size,λk a _=>h.block k a⟩
theorem eM{g:Nat}{vs:List Value}(h:w.grownBy w' (some g)):w.grownBy (w'.setCells g o vs) (some g):=by have b:=bh (B:=0) (kqz g) vs (o:=o) (kqk 0 w');refine⟨b.os.trans h.os,b.tape.trans h.tape,b.output.trans h.output,by rw[cY];exact h.size,λk c a=>?_⟩;rw[dN (λe=>a (by rw[e]))];exact h.block k c a
open Go.RowKit Go.Lib
def FY (l:List Dw) (i:Nat) (x:Dw) (H:Nat) (r:Option Nat) (w:World) (e:Ending) (w':World):Prop:=(∃A c,e=.returned (.slice A (l.length+1) c)/\w'.ownsRow H 92 3 (.slice A (l.length+1) c) (l.length+1) ((l.take i++x::l.drop i).flatMap Dw.cells))/\w.grownBy w' r
theorem ER(DA:Option Addr)(l:List Dw)(dc:Nat)(x:Dw)(vb H:Nat)(w:World)(hm:l.length<=1000000)(hH:H<=w.heap.size)(hown:w.ownsRow H 92 3 (.slice DA l.length dc) l.length (l.flatMap Dw.cells))(hv:Bx w vb 92 #[.int .i64 x.a,.int .u64 (x.v:Int),.bool x.f]):
 Calls prog 228 #[.slice DA l.length dc,.int .i64 (l.length:Int),.slice (some ⟨vb,0,none⟩) 1 1] w λe w'=>FY l l.length x H (Value.slice DA l.length dc).ownBlock w e w':=by
 have n:=cK hown;have A:=hid hown;have B:Hid (∀j u,([.int .i64 x.a,.int .u64 (x.v:Int),.bool x.f]:List Value)[j]? = some u->w.cell? ((⟨vb,0,none⟩:Addr).add j)=some u):=hid λj u E=>by
  rw[gX,kxd,hv.cell j]
  simpa using E
 have t:Hid ((l.take l.length++x::l.drop l.length).flatMap Dw.cells=l.flatMap Dw.cells++[.int .i64 x.a,.int .u64 (x.v:Int),.bool x.f]):=hid (by rw[kzf,kkf,kxc];rfl);obtain⟨C,y,k,o,p⟩:=kzr CI;have z:=hid y;have i:=hid k;have q:=hid o;have m:=hid p;clear y k o p;by_cases s:dc=l.length
 .subst s;clear hown hv n;go_enter func228,ntmps228;go_wp2_with (at_builtin;refine kzh _ rfl _ _ 77 rfl H 92 C _ 3 24 underlying77 z.out i.out q.out m.out rfl (by decide) _ _ _ rfl A.out ⟨vb,0,none⟩ 1 1 [.int .i64 x.a,.int .u64 (x.v:Int),.bool x.f] rfl rfl B.out (by simp[Value.oneCell']) (by unfold maxLen;omega) (by omega) hH ?_;intro v1 D b c _;obtain⟨r,h,rfl⟩:=aE b;have d:=hid b;have g:=hid c;clear b c);go_ret;exact⟨⟨r,h,rfl,by rw[t.out];exact d.out⟩,g.out⟩
 clear hown hv;go_enter func228,ntmps228;go_wp2_with (at_builtin;refine kzh _ rfl _ _ 77 rfl H 92 C _ 3 24 underlying77 z.out i.out q.out m.out rfl (by decide) _ _ _ rfl A.out ⟨vb,0,none⟩ 1 1 [.int .i64 x.a,.int .u64 (x.v:Int),.bool x.f] rfl rfl B.out (by simp[Value.oneCell']) (by unfold maxLen;omega) (by omega) hH ?_;intro v1 D b c _;obtain⟨r,h,rfl⟩:=aE b;have d:=hid b;have g:=hid c;clear b c);go_ret;exact⟨⟨r,h,rfl,by rw[t.out];exact d.out⟩,g.out⟩
theorem Iv(g:Nat)(l:List Dw)(b i:Nat)(x:Dw)(vb H:Nat)(w:World)(hm:l.length<=1000000)(hi:i<l.length)(hroom:l.length+1<=b)(_hH:H<=w.heap.size)(hown:w.ownsRow H 92 3 (.slice (some ⟨g,0,none⟩) l.length b) l.length (l.flatMap Dw.cells))(n:Bx w vb 92 #[.int .i64 x.a,.int .u64 (x.v:Int),.bool x.f])(hvb:vb≠g):
 Calls prog 228 #[.slice (some ⟨g,0,none⟩) l.length b,.int .i64 (i:Int),.slice (some ⟨vb,0,none⟩) 1 1] w λe w'=>FY l i x H (some g) w e w':=by
 obtain⟨r,p,Y,hle,I,C,F⟩:=n9 hown;have hS:(l.flatMap Dw.cells).length=l.length*3:=cm Dw.cells 3 Dw.len l;have hc63:b<=9223372036854775807:=by unfold maxLen at I;exact I
 have Z:∀o lb T,(callFunc 269 #[.slice (some ⟨vb,0,none⟩) 1 1,.slice (some ⟨g,o,none⟩) lb T]).run prog w=.ok (.value (.bool false)) w:=λo lb T=>by
  rw[run_callFunc_extern func269 (by kernel_rfl) (by kernel_rfl) (by kernel_rfl) (e:=Extern.SlicesOverlaps.overlaps #[77,77] #[4]) (by kernel_rfl),
   Lib.run_overlaps_apart w 77 4 92 underlying77 3 (λw=>by kernel_rfl) ⟨vb,0,none⟩ ⟨g,o,none⟩ 1 1 lb T hvb 92 92 3 (b*3) (by simp[World.shape?,show w.heap[vb]? = _ from n]) (by simp[World.shape?,p,C]) (by omega) (by rw[n.frozen]) (by rw[n.frozen])]
  rfl
 have s:∀j v,r[j]? = some v->w.cell? ⟨g,j,none⟩=some v:=λj v c=>by
  simp[World.cell?,p,c]
 have d:∀j,j<b*3->(w.cell? ⟨g,j,none⟩).isSome=true:=λj c=>by
  rw[s j (r[j]'(by omega)) (kql _)];rfl
 have B:∀j,w.frozen? ⟨g,j,none⟩=false:=λj=>by
  simp[World.frozen?,p]
 have q:∀v∈l.flatMap Dw.cells,v.oneCell'=true:=λv n=>by
  obtain⟨y,-,hy⟩:=kvf.1 n;simp only[Dw.cells,kqw,kzk,or_false] at hy;rcases hy with rfl|rfl|rfl<;>rfl
 have E:∀j v,(l.flatMap Dw.cells)[j]? = some v->w.cell? ⟨g,j,none⟩=some v:=λj v c=>by
  apply s;rw[<-F] at c;have:=kk5 (l:=r) (i:=l.length*3) (j:=j);rw[this] at c;split at c
  .exact c
  cases c
 obtain⟨S,z⟩:=xq (l.flatMap Dw.cells);obtain⟨X,O⟩:=xq (r.take ((l.length+1)*3));have t:w.drew.ownsRow H 92 3 (.slice (some ⟨g,0,none⟩) (l.length+1) b) (l.length+1) X:=by
  refine⟨by rw[<-O,kq4];omega,Or.inr ⟨g,b,r.toArray,rfl,Y,p,hroom,I,by simpa using C,?_⟩⟩
  simpa using O
 have N:X=S++X.drop (l.length*3):=by
  have L:X.take (l.length*3)=S:=by rw[<-O,kkg,kxg (by omega),<-z];exact F
  rw[<-L,kxb]
 have Q:(X.drop (l.length*3)).length=3:=by rw[kzp,<-O,kq4];omega
 rw[z] at hS q E;have M:(S.drop (i*3)).length=(l.length-i)*3:=by rw[kzp,hS];omega
 have u:∀D b U,(Builtin.copy_ #[77,77] D #[.slice (some ⟨g,(i+1)*3,none⟩) (l.length-i) b,.slice (some ⟨g,i*3,none⟩) (l.length+1-i) U]).run prog w.drew=.ok (goInt ((l.length-i:Nat):Int)) (w.drew.setCells g ((i+1)*3) (S.drop (i*3))):=λD b U =>
  gu w.drew 77 77 D 92 3 (l.length-i) g ((i+1)*3) (l.length-i) b ⟨g,i*3,none⟩ (l.length+1-i) U (S.drop (i*3)) underlying77 (by kernel_rfl) (by simp only[Nat.min_def];split<;>omega) M
   (λj v c=>by rw[gX];exact E (i*3+j) v (by rwa [kxr] at c))
   (λj c=>d _ (by omega)) (λj c=>B _) (λv n=>q v (kxz n))
 obtain⟨G,m⟩:∃G,G=w.drew.setCells g ((i+1)*3) (S.drop (i*3)):=⟨_,rfl⟩;have A:∀k,k<b*3->(G.cell? ⟨g,k,none⟩).isSome=true:=λk hk=>by
  rw[m];exact World.isSome_setCells g _ _ _ _ (d k hk)
 have K:∀(W:World),(∀x,W.cell? x=G.cell? x)->(∀x,W.frozen? x=G.frozen? x)->∀D b,(Builtin.copy_ #[77,77] D #[.slice (some ⟨g,i*3,none⟩) (l.length+1-i) b,.slice (some ⟨vb,0,none⟩) 1 1]).run prog W=.ok (goInt 1) (W.setCells g (i*3) x.cells):=λW J Eq D b =>
  gu W 77 77 D 92 3 1 g (i*3) (l.length+1-i) b ⟨vb,0,none⟩ 1 1 x.cells underlying77 (by kernel_rfl) (by simp only[Nat.min_def];split<;>omega) rfl
   (λj v c=>by
    rw[gX,kxd,J,m,kx9 g _ _ _ _ (λh _=>absurd h hvb)];exact (n.cell j).trans (by simpa [Dw.cells] using c))
   (λj c=>by rw[J];exact A _ (by have:x.cells.length=3:=rfl;omega)) (λj c=>by rw[Eq,m,World.frozen?_setCells];exact B _) (λv n=>by
    simp only[Dw.cells,kqw,kzk,or_false] at n;rcases n with rfl|rfl|rfl<;>rfl)
 have P:Hid ((G.setCells g (i*3) x.cells).ownsRow H 92 3 (.slice (some ⟨g,0,none⟩) (l.length+1) b) (l.length+1) ((l.take i++x::l.drop i).flatMap Dw.cells)):=hid (by
  have L:=dE x.cells (i*3) _ _ (dE (S.drop (i*3)) ((i+1)*3) _ _ t);rw[<-m] at L;have e1:(i+1)*3=i*3+3:=by omega
  rw[e1,FG (o:=i*3) (k:=3) (V:=x.cells) N (by omega) rfl Q] at L;rw[tf,z];exact L)
 have R:Hid (w.grownBy (G.setCells g (i*3) x.cells) (some g)):=hid (by
  rw[m];exact eM (eM (ew (kji (kqk _ w)))))
 rw[<-m] at u;have hz1:¬ ((i:Int)=(l.length:Int)):=by omega
 have hb2:¬ (b=i+1):=by omega
 have hb4:¬ (b=i):=by omega
 have hin:i<=l.length:=by omega
 have hw1:IntKind.i64.wrap ((i:Int)+1)=(i:Int)+1:=by rw[IntKind.wrap_i64];omega
 have hw2:IntKind.i64.wrap ((l.length:Int)+1)=(l.length:Int)+1:=by rw[IntKind.wrap_i64];omega
 have hb3:(i:Int)<=(l.length:Int)+1:=by omega
 have hb5:(i:Int)+1<=(l.length:Int)+1:=by omega
 have hb1:(0:Int)<=(i:Int)+1:=by omega
 have htn:((i:Int)+1).toNat=i+1:=by omega
 have htm:((l.length:Int)+1).toNat=l.length+1:=by omega
 have mixed:prog.follows .mixedOrders=true:=by kernel_rfl
 clear m hown n F C p s d B q E O t N Q hS M A z;go_enter func228,ntmps228;go_wp2_with (simp only[Z])
 go_region_law_o (refine step_copy_runI rfl _ _ 77 77 rfl _ _ (by simp[Act.eval,Act.put]) (by simp[Act.eval,Act.put]) (u _ _ _) ?_)
 clear u;go_wp2_with ((with_reducible refine rf ?_);refine wpList_copy_runI _ rfl _ _ 77 77 rfl _ _ rfl rfl (K _ (λ_=>rfl) (λ_=>rfl) _ _) ?_);go_ret;exact⟨⟨_,_,rfl,P.out⟩,R.out⟩
theorem E8{T D:List Value}(hx:X=T++R)(hT:T.length=o)(hV:V.length=k)(hR:R.length=k+D.length):tQ (tQ X o V) (o+k) D=T++(V++D):=by
 subst hx;have a:tQ (T++R) o V=T++(V++R.drop k):=by rw[mw _ _ _ (by rw[kqs,hT,hV,hR];omega),kxn (by omega),kq8 (by omega),List.drop_append,kjg (by omega),kz2,hT,hV];congr 2;congr 1;omega
 rw[a,mw _ _ _ (by simp only[kqs,kzp,hT,hV,hR];omega)];have b:(T++(V++R.drop k)).drop (o+k+D.length)=[]:=kjg (by simp only[kqs,kzp,hT,hV,hR];omega);rw[b,kzt,<-kxo,kxn (by rw[kqs];omega),kq8 (by rw[kqs];omega),kxo]
theorem kc(vs:Array Value)(n:Nat):(Builtin.zeroCells vs n).toList.length=n*vs.size:=by simp[Builtin.zeroCells]
theorem Ci(g:Nat)(l:List Dw)(i:Nat)(x:Dw)(vb H:Nat)(w:World)(hm:l.length<=1000000)(hi:i<l.length)(hH:H<=w.heap.size)(hown:w.ownsRow H 92 3 (.slice (some ⟨g,0,none⟩) l.length l.length) l.length (l.flatMap Dw.cells))(A:Bx w vb 92 #[.int .i64 x.a,.int .u64 (x.v:Int),.bool x.f]):
 Calls prog 228 #[.slice (some ⟨g,0,none⟩) l.length l.length,.int .i64 (i:Int),.slice (some ⟨vb,0,none⟩) 1 1] w λe w'=>FY l i x H (some g) w e w':=by
 obtain⟨cur,Y,hHg,hle,hmx,La,Eq⟩:=n9 hown;have hS:(l.flatMap Dw.cells).length=l.length*3:=cm Dw.cells 3 Dw.len l;have Lb:cur=l.flatMap Dw.cells:=by rw[<-Eq,kq8 (by omega)]
 subst Lb;have z:∀j v,(l.flatMap Dw.cells)[j]? = some v->w.cell? ⟨g,j,none⟩=some v:=λj v d=>by
  simp[World.cell?,Y,d]
 have u:∀v∈l.flatMap Dw.cells,v.oneCell'=true:=λv A=>by
  obtain⟨y,-,hy⟩:=kvf.1 A;simp only[Dw.cells,kqw,kzk,or_false] at hy;rcases hy with rfl|rfl|rfl<;>rfl
 obtain⟨S,E⟩:=xq (l.flatMap Dw.cells);have Li:g<w.heap.size:=by have N:=z 0 ((l.flatMap Dw.cells)[0]'(by omega)) (kql _);exact block_lt_of_cell N
 have Ld:vb<w.heap.size:=block_lt_of_cell (v:=.int .i64 x.a) ((A.cell 0).trans (by simp));obtain⟨i0,O,D,P,J⟩:=kzr CI;have Q:(l.length:Int)+1-(i:Int)=((l.length+1-i:Nat):Int):=by omega
 have K:i+(l.length+1-i)=l.length+1:=by omega
 rw[E] at hS u z;have m:(S.take (i*3)).length=i*3:=by rw[kq4];omega
 have M:(S.drop (i*3)).length=(l.length-i)*3:=by rw[kzp,hS];omega
 have C:(Builtin.firstCells i0.size i (.slice (some ⟨g,0,none⟩) i l.length)).run prog w.drew=.ok (S.take (i*3)).toArray w.drew:=by
  rw[P];exact run_firstCells_some w.drew 3 i ⟨g,0,none⟩ i l.length (S.take (i*3)) m (λj v d=>by
   rw[gX,kxd];rw[kk5] at d;split at d
   .exact z j v d
   cases d)
 obtain⟨Z,hZ⟩:∃Z:Value,Z=.agg #[.int .i64 0,.int .u64 0,.bool false]:=⟨_,rfl⟩;rw[<-hZ] at D;have p:Z.cells.size=3:=by rw[hZ];rfl
 obtain⟨G,hG⟩:∃G,G=grownCap w (l.length+1) l.length 92:=⟨_,rfl⟩;have I:∀r,(Builtin.append_ #[77,3] r #[.slice (some ⟨g,0,none⟩) i l.length,.int .i64 ((l.length:Int)+1-(i:Int))]).run prog w =
  .ok (.slice (some ⟨w.heap.size,0,none⟩) (l.length+1) G) (w.drew.alloc (.cells ((S.take (i*3)).toArray++Builtin.zeroCells Z.cells (l.length+1-i)++Builtin.zeroCells Z.cells (G-(l.length+1))) 92)):=λr=>by
  have h:=Lib.run_append_grow_zeros w 77 3 r 92 i0 _ .i64 .i64 underlying77 underlying3 O D (some ⟨g,0,none⟩) i l.length (S.take (i*3)) C (l.length+1-i) (by omega) (by omega) (by omega) (by omega) (by rw[J];omega) (by rw[J,K];exact growslice_fits (by omega) (by omega));rw[K,<-hG] at h;rw[Q];exact h
 have Lg:l.length+1<=G:=by rw[hG];exact grownCap_ge w _ _ _
 have U:G<=maxLen:=by rw[hG];exact grownCap_le_maxLen w (l.length+1) l.length 92 (by unfold maxLen;omega)
 have hG63:G<=9223372036854775807:=by unfold maxLen at U;omega
 obtain⟨b,n⟩:∃b:Array Value,b=(S.take (i*3)).toArray++Builtin.zeroCells Z.cells (l.length+1-i)++Builtin.zeroCells Z.cells (G-(l.length+1)):=⟨_,rfl⟩;rw[<-n] at I;have R:b.size=G*3:=by
  have N:b.toList.length=G*3:=by rw[n];simp only[Array.toList_append,kqs,kc,p,m];omega
  simpa using N
 have Kw:b.toList.take ((l.length+1)*3)=S.take (i*3)++(Builtin.zeroCells Z.cells (l.length+1-i)).toList:=by rw[n];simp only[Array.toList_append];rw[kxn (by simp only[kqs,kc,p,m];omega),kq8 (by simp only[kqs,kc,p,m];omega)]
 obtain⟨s,c⟩:∃s,s=w.drew.alloc (.cells b 92):=⟨_,rfl⟩;have t:∀W:World,W.heap=s.heap->W.ownsRow H 92 3 (.slice (some ⟨w.heap.size,0,none⟩) (l.length+1) G) (l.length+1) (S.take (i*3)++(Builtin.zeroCells Z.cells (l.length+1-i)).toList):=λW hW=>by
  refine⟨by simp only[kqs,kc,p,m];omega,Or.inr ⟨w.heap.size,G,b,rfl,hH,?_,Lg,U,R,Kw⟩⟩;rw[hW,c];show (w.heap.push (Obj.cells b 92 (0,0)))[w.heap.size]? = _;simp
 have hN:∀j,j<(l.length+1)*3->(s.cell? ⟨w.heap.size,j,none⟩).isSome=true:=λj d=>by
  rw[c,World.cell?_alloc_at (w:=w.drew) b _ w.heap.size j rfl,kjl (by omega)];rfl
 have T:∀j,s.frozen? ⟨w.heap.size,j,none⟩=false:=λj=>by rw[c];exact World.frozen?_alloc_at (w:=w.drew) b _ w.heap.size j rfl
 have Lc:∀j v,w.cell? ⟨g,j,none⟩=some v->s.cell? ⟨g,j,none⟩=some v:=λj v h=>by rw[c,World.cell?_alloc_past (w:=w.drew) _ g j Li];exact h
 have Lk:∀j v,w.cell? ⟨vb,j,none⟩=some v->s.cell? ⟨vb,j,none⟩=some v:=λj v h=>by rw[c,World.cell?_alloc_past (w:=w.drew) _ vb j Ld];exact h
 have Kx:∀(W:World),(∀x,W.cell? x=s.cell? x)->(∀x,W.frozen? x=s.frozen? x)->∀r F,(Builtin.copy_ #[77,77] r #[.slice (some ⟨w.heap.size,i*3,none⟩) (l.length+1-i) F,.slice (some ⟨vb,0,none⟩) 1 1]).run prog W=.ok (goInt 1) (W.setCells w.heap.size (i*3) x.cells):=λW q L r F =>
  gu W 77 77 r 92 3 1 w.heap.size (i*3) (l.length+1-i) F ⟨vb,0,none⟩ 1 1 x.cells underlying77 (by kernel_rfl) (by simp only[Nat.min_def];split<;>omega) rfl
   (λj v d=>by
    rw[gX,kxd,q];exact Lk _ v ((A.cell j).trans (by simpa [Dw.cells] using d)))
   (λj d=>by rw[q];exact hN _ (by have:x.cells.length=3:=rfl;omega)) (λj d=>by rw[L];exact T _) (λv A=>by
    simp only[Dw.cells,kqw,kzk,or_false] at A;rcases A with rfl|rfl|rfl<;>rfl)
 have Le:g≠w.heap.size:=by omega
 have B:∀(W:World),(∀y,W.cell? y=(s.setCells w.heap.size (i*3) x.cells).cell? y)->(∀y,W.frozen? y=(s.setCells w.heap.size (i*3) x.cells).frozen? y)->∀r F sc,(Builtin.copy_ #[77,77] r #[.slice (some ⟨w.heap.size,(i+1)*3,none⟩) (l.length-i) F,.slice (some ⟨g,i*3,none⟩) (l.length-i) sc]).run prog W=.ok (goInt ((l.length-i:Nat):Int)) (W.setCells w.heap.size ((i+1)*3) (S.drop (i*3))):=λW q L r F sc =>
  gu W 77 77 r 92 3 (l.length-i) w.heap.size ((i+1)*3) (l.length-i) F ⟨g,i*3,none⟩ (l.length-i) sc (S.drop (i*3)) underlying77 (by kernel_rfl) (by simp only[Nat.min_def];split<;>omega) M
   (λj v d=>by
    rw[gX,q,kx9 _ _ _ _ _ (λh _=>absurd h Le)];exact Lc _ v (z (i*3+j) v (by rwa [kxr] at d)))
   (λj d=>by rw[q];exact World.isSome_setCells _ _ _ _ _ (hN _ (by omega)))
   (λj d=>by rw[L,World.frozen?_setCells];exact T _) (λv A=>u v (kxz A))
 have X:Hid (((((w.alloc (.cells b 92)).drew.setCells w.heap.size (i*3) x.cells).drew).setCells w.heap.size ((i+1)*3) (S.drop (i*3))).ownsRow H 92 3 (.slice (some ⟨w.heap.size,0,none⟩) (l.length+1) G) (l.length+1) ((l.take i++x::l.drop i).flatMap Dw.cells)):=hid (by
  have h0:=dE x.cells (i*3) _ _ (t (w.alloc (.cells b 92)).drew (by rw[c];rfl));have N:=dE (S.drop (i*3)) ((i+1)*3) _ _ (show (((w.alloc (.cells b 92)).drew.setCells w.heap.size (i*3) x.cells).drew).ownsRow H 92 3 _ _ _ from h0);have e1:(i+1)*3=i*3+3:=by omega
  rw[e1,E8 (o:=i*3) (k:=3) (V:=x.cells) rfl m rfl (by rw[kc,p,M];omega)] at N;rw[tf,E,e1];exact N)
 have Ky:Hid (w.grownBy ((((w.alloc (.cells b 92)).drew.setCells w.heap.size (i*3) x.cells).drew).setCells w.heap.size ((i+1)*3) (S.drop (i*3))) (some g)):=hid (ew (bh (kqa _) _ (kji (bh (kqa _) _ (kji (kjj (kqk _ w) (kqa _) _))))));rw[<-c] at I;subst c;have Kz:∀x,((w.alloc (.cells b 92)).drew).cell? x=(w.drew.alloc (.cells b 92)).cell? x:=λx=>rfl;have Lj:∀x,((w.alloc (.cells b 92)).drew).frozen? x=(w.drew.alloc (.cells b 92)).frozen? x:=λx=>rfl;have Lh:∀y,(((w.alloc (.cells b 92)).drew.setCells w.heap.size (i*3) x.cells).drew).cell? y=((w.drew.alloc (.cells b 92)).setCells w.heap.size (i*3) x.cells).cell? y:=λy=>rfl;have Lf:∀y,(((w.alloc (.cells b 92)).drew.setCells w.heap.size (i*3) x.cells).drew).frozen? y=((w.drew.alloc (.cells b 92)).setCells w.heap.size (i*3) x.cells).frozen? y:=λy=>rfl;have hz1:¬ ((i:Int)=(l.length:Int)):=by omega
 have hz3:(l.length:Int)<(l.length:Int)+1:=by omega
 have hGi:¬ (G=i):=by omega
 have hGim:¬ (G=i+1):=by omega
 have hci:¬ (l.length=i):=by omega
 have hin:i<=l.length:=by omega
 have hw1:IntKind.i64.wrap ((i:Int)+1)=(i:Int)+1:=by rw[IntKind.wrap_i64];omega
 have hw2:IntKind.i64.wrap ((l.length:Int)+1)=(l.length:Int)+1:=by rw[IntKind.wrap_i64];omega
 have hw3:IntKind.i64.wrap ((l.length:Int)+1-(i:Int))=(l.length:Int)+1-(i:Int):=by rw[IntKind.wrap_i64];omega
 have hb3:(i:Int)<=(l.length:Int):=by omega
 have hb5:(i:Int)+1<=(l.length:Int)+1:=by omega
 have hb1:(0:Int)<=(i:Int)+1:=by omega
 have htn:((i:Int)+1).toNat=i+1:=by omega
 have htm:((l.length:Int)+1).toNat=l.length+1:=by omega
 have mixed:prog.follows .mixedOrders=true:=by kernel_rfl
 clear hown A Eq La Y u z hS M E Q K C n hG R Kw t p hZ D P J O m;go_enter func228,ntmps228;go_wp2_with (first
  | ((with_reducible refine rf ?_);refine wpList_copy_runI _ rfl _ _ 77 77 rfl _ _ rfl rfl (Kx _ Kz Lj _ _) ?_)
  | ((with_reducible refine rf ?_);refine wpList_copy_runI _ rfl _ _ 77 77 rfl _ _ rfl rfl (B _ (λ_=>rfl) (λ_=>rfl) _ _ _) ?_)
  | (at_builtin;refine Lib.wpList_append_run _ rfl _ _ _ _ rfl _ _ rfl rfl _ _ (I _) ?_))
 go_region_law_o (refine step_copy_runI rfl _ _ 77 77 rfl (.slice (some ⟨w.heap.size,(i+1)*3,none⟩) (l.length-i) (G-(i+1))) (.slice (some ⟨g,i*3,none⟩) (l.length-i) (l.length-i)) (by simp[Act.eval,Act.put]) (by simp[Act.eval,Act.put]) (B _ Lh Lf 3 (G-(i+1)) (l.length-i)) ?_)
 go_wp2;go_ret;exact⟨⟨_,_,rfl,X.out⟩,Ky.out⟩
theorem ins_c(DA:Option Addr)(l:List Dw)(dc i:Nat)(x:Dw)(vb H:Nat)(w:World)(hm:l.length<=1000000)(hi:i<=l.length)(hH:H<=w.heap.size)(hown:w.ownsRow H 92 3 (.slice DA l.length dc) l.length (l.flatMap Dw.cells))(hv:Bx w vb 92 #[.int .i64 x.a,.int .u64 (x.v:Int),.bool x.f])(hvb:(Value.slice DA l.length dc).ownBlock≠some vb):
 Calls prog 228 #[.slice DA l.length dc,.int .i64 (i:Int),.slice (some ⟨vb,0,none⟩) 1 1] w λe w'=>FY l i x H (Value.slice DA l.length dc).ownBlock w e w':=by
 by_cases k:i=l.length
 .subst k;exact ER DA l dc x vb H w hm hH hown hv
 have c:i<l.length:=by omega
 obtain⟨g,c9,b⟩:=gt hown (by omega);injection b with h2 h3 h4;subst h2;subst h4;have d:vb≠g:=λh=>hvb (by rw[h];rfl);by_cases j:l.length+1<=dc
 .exact Iv g l dc i x vb H w hm c j hH hown hv d
 have hc:=cK hown;have:dc=l.length:=by omega
 subst this;exact Ci g l i x vb H w hm c hH hown hv
theorem Hm{H sz:Nat}{e:TypeId}{v:Value}{xs:List Value}(h:w.ownsRow H e sz v n xs):v.ownBlock≠some w.heap.size:=by
 rcases h.2 with⟨rfl,-⟩|⟨g,cap,cur,rfl,-,a,-⟩
 .intro h;cases h
 intro c;have b:g=w.heap.size:=by injection c
 subst b;simp at a
theorem Cp(l:List Dw)(i:Nat)(x:Dw)(hi:i<l.length):tQ (l.flatMap Dw.cells) (i*3) x.cells=(l.set i x).flatMap Dw.cells:=by have b:=cm Dw.cells 3 Dw.len l;have a:x.cells.length=3:=rfl;rw[mw _ _ _ (by rw[b,a];omega),List.set_eq_take_append_cons_drop,if_pos hi,kxc,kzy,iV Dw.cells 3 Dw.len,sD Dw.cells 3 Dw.len,a];rw[show (i+1)*3=i*3+3 by omega]
theorem z7(A DA:Option Addr)(im:List Nat)(dw:List Dw)(lf:Int)(dn:Bool)(n c m dc a v:Nat)(w:World)(hn:im.length=n)(hm:dw.length=m)(hok:ff ⟨im,dw,lf,dn⟩=true)(ha:a<n)(_hv:v<18446744073709551616)(hm2:m<=1000000)(hi:RdW w w.heap.size A im)(hr:RdQ w w.heap.size DA dw):
 Calls prog 180 #[.agg #[.slice A n c,.slice DA m dc,.int .i64 lf,.bool dn],.int .i64 (a:Int),.int .u64 (v:Int)] w λe w'=>(∃u,e=.returned (.tuple #[u,.int .i64 0])/\lX w' w.heap.size (dvS ⟨im,dw,lf,dn⟩ (a:Int) v) u)/\Below w.heap.size w w':=by
 have Q:=(bP _).1 hok;have hs:=(ab _).1 Q.1;dsimp only at hs;have Lk : -1<=lf/\lf<=1000000:=⟨Q.2.1,Q.2.2.1⟩;have La:=Q.2.2.2.2;dsimp only at La;have Lf:=hid (inc_of La);have Kx:=hid (λW (h:RdQ W W.heap.size DA dw)=>GV A DA im dw lf dn n c m dc (a:Int) W hn hm (by omega) (by omega) h);rw[D3 hok (by omega) (by dsimp only;omega)] at Kx;have y:=hid (λW (h:RdW W W.heap.size A im) (h2:RdQ W W.heap.size DA dw)=>oM A DA im dw lf dn n c m dc W hn hm (by omega) (by omega) (by omega) Lk h h2);unfold lX at y;rw[(p9 _).1,(p9 _).2] at y;dsimp only at y;rw[hn,hm] at y;have HR:=hid hi;have HQ:=hid hr;obtain⟨W0,Mi,V,x1,Lh,Ma⟩:=nU w A DA lf dn n c m dc;have Y:=hid V;have X1:=hid x1;have Li:=hid Lh;have q:=hid hn;have Ky:=hid hm;obtain⟨q0,q1,q2,q3,-,-,-,-,hg⟩:=V.c4;have Le:w.heap.size<=W0.heap.size:=by omega
 have Mb:w.heap.size+1<W0.heap.size:=by omega
 have Lx:w.heap.size+1≠w.heap.size:=by omega
 have hn3:n<=2048:=by omega
 clear hi hr V x1 Lh Ma hn hm Q hs La hok;go_enter func180,ntmps180;go_wp2_with fail;clear Mi;refine (Kx.out W0 (HQ.out.up Li.out Le)).mono ?_;rintro e w1 ⟨rfl,F⟩;have V:=Y.out.up F hg;have f:=hid (Li.out.trans (F.mono Le));have hz1:=F.size;obtain⟨p0,p1,p2,p3,-,-,-,-,l⟩:=V.c4;have Y0:=hid V;have Y1:=hid (X1.out.up F Mb);have b:w.heap.size+1<w1.heap.size:=by omega
 clear V F q0 q1 q2 q3;go_wp2_with fail;refine (y.out w1 (HR.out.up f.out f.out.size) (HQ.out.up f.out f.out.size)).mono ?_;rintro e w2 ⟨⟨_,rfl,J,I,z,s,rfl,U,Lw,Lq⟩,D⟩;have Eq:=hid Lw;have P:=hid Lq;have Z0:=hid (Y0.out.up D l);have Z1:=hid (Y1.out.up D b);have Lb:=hid (f.out.trans (D.mono f.out.size));have Me:=D.size;clear D Lw Lq p0 p1 p2 p3;by_cases E:lf=0
 .subst E;have HV:Hid (dvS ⟨im,dw,0,dn⟩ (a:Int) v=⟨im,dw,0,true⟩):=hid (by unfold dvS dvD;rw[if_pos rfl]);rw[qx rfl,show decide ((0:Int)≠0)=false from rfl];unfold dvD;dsimp only;go_wp2_with (first
   | ((with_reducible refine ar 79 (.tmp 3) _ ?_);refine stD Z0.out ?_;intro N Z d)
   | ((with_reducible refine aQ 79 (.tmp 3) ?_);refine ldD Z.out ?_)
   | ((with_reducible refine ar 79 (.tmp 6) _ ?_);refine stD (d.out.bx Z1.out Lx) ?_;intro w9 G j))
  refine kqq (v:=.tuple #[.agg #[.slice J n I,.slice z m s,.int .i64 0,.bool true],.int .i64 0]) (bi results180 _ G.out rfl rfl rfl) rfl ⟨⟨_,rfl,by
   rw[HV.out];exact⟨J,I,z,s,by rw[q.out,Ky.out],by rw[q.out];exact U,by rw[q.out];exact am (aq (aq Eq.out d.out l) j.out b) f.out.size,by rw[Ky.out];exact am (aq (aq P.out d.out l) j.out b) f.out.size⟩⟩,j.out.below (d.out.below Lb.out (kqa _)) (by omega)⟩
 have ed:decide (lf≠0)=true:=by rw[kqo];exact E
 have HV:Hid (dvS ⟨im,dw,lf,dn⟩ (a:Int) v=⟨im,stQ dw (a:Int) v,dec lf,dn⟩):=hid (by unfold dvS;rw[if_neg E]);have Lv:dvB ⟨im,dw,lf,dn⟩=⟨im,dw,dec lf,dn⟩:=by unfold dvB;rw[if_neg E]
 rw[ed,Lv];dsimp only;obtain⟨l2,Ll⟩:=xq (dec lf);rw[Ll] at HV |-;subst Ky;clear Ll Lv ed E Lk;go_wp2_with (first
  | (((with_reducible refine ar 79 (.tmp 3) _ ?_);refine stD Z0.out ?_;intro N Z d);obtain⟨s0,s1,s2,s3,M,O,L,K,slt⟩:=Z.out.c4)
  | ((with_reducible refine aQ 79 (.tmp 3) ?_);refine ldD Z.out ?_))
 have Mf:w.heap.size<N.heap.size:=Z.out.lt;have Lo:w.heap.size+1<N.heap.size:=by have:=d.out.1;omega
 have YD:=hid (Bx.new N 92 #[.int .i64 (a:Int),.int .u64 (v:Int),.bool false]);have V0:=hid (Z.out.alloc (.cells #[.int .i64 (a:Int),.int .u64 (v:Int),.bool false] 92));have V1:=hid ((d.out.bx Z1.out Lx).alloc (.cells #[.int .i64 (a:Int),.int .u64 (v:Int),.bool false] 92));have VO:=hid ((aq Eq.out d.out l).alloc (.cells #[.int .i64 (a:Int),.int .u64 (v:Int),.bool false] 92));have VQ:=hid ((aq P.out d.out l).alloc (.cells #[.int .i64 (a:Int),.int .u64 (v:Int),.bool false] 92));have Ln:=hid (Hm (aq P.out d.out l));have VB:=hid ((d.out.below Lb.out (kqa _)).alloc (by omega) (.cells #[.int .i64 (a:Int),.int .u64 (v:Int),.bool false] 92));have S:(N.alloc (.cells #[.int .i64 (a:Int),.int .u64 (v:Int),.bool false] 92)).heap.size=N.heap.size+1:=kqm _ _;have Lg:w1.heap.size<=N.heap.size:=by have:=d.out.1;omega
 obtain⟨b3,Ly⟩:=xq N.heap.size;obtain⟨w4,Lp⟩:∃w4,N.alloc (.cells #[.int .i64 (a:Int),.int .u64 (v:Int),.bool false] 92)=w4:=⟨_,rfl⟩;rw[Ly] at YD Ln S Mf Lo Lg |-;rw[Lp] at YD V0 V1 VO VQ VB S |-;clear Lp Eq P Lb Z0 Z1 d Me s0 s1 s2 s3 M O L K slt Z Ly;refine (FB J z dw l2 dn n I dw.length s (a:Int) w4 rfl hm2 Lf.out (Rd.of_own VQ.out)).mono ?_;rintro e H ⟨⟨i,rfl,Kw⟩,r⟩;have Y:=hid (V0.out.up r (by omega));have X1:=hid (V1.out.up r (by omega));have XD:=hid (YD.out.up r (by omega));have XO:=hid (aa VO.out r (kqa _));have XQ:=hid (aa VQ.out r (kqa _));have XB:=hid (VB.out.trans (r.mono VB.out.size));have hz5:=r.size;have Mh:i<=dw.length:=Kw.1;have C:=hid (stQ_at (v:=v) Kw);clear r V0 V1 YD VO VQ VB Kw HR HQ Kx y;obtain⟨s0,s1,s2,s3,M,O,L,K,slt⟩:=Y.out.c4;cases hf:vG dw (a:Int) i
 .rw[hf] at C;have Lc:=hid (show stQ dw (a:Int) v=dw.take i++⟨(a:Int),v,false⟩::dw.drop i by rw[C.out];simp);clear C hf;go_wp2_with (first
   | ((with_reducible refine aQ 79 (.tmp 3) ?_);refine ldD Y.out ?_)
   | ((with_reducible refine aQ 92 (.tmp 10) ?_);refine kxj rfl _ _ rfl b3 (by rfl) 92 _ (0,0) _ XD.out underlying92 (by rfl) (by kernel_rfl) ?_))
  have Ls:(H.alloc (.cells #[.int .i64 (a:Int),.int .u64 (v:Int),.bool false] 92)).heap.size=H.heap.size+1:=kqm _ _;have Z0:=hid (Y.out.alloc (.cells #[.int .i64 (a:Int),.int .u64 (v:Int),.bool false] 92));have Z1:=hid (X1.out.alloc (.cells #[.int .i64 (a:Int),.int .u64 (v:Int),.bool false] 92));have ZO:=hid (XO.out.alloc (.cells #[.int .i64 (a:Int),.int .u64 (v:Int),.bool false] 92));have ZQ:=hid (XQ.out.alloc (.cells #[.int .i64 (a:Int),.int .u64 (v:Int),.bool false] 92));have ZB:=hid (XB.out.alloc (by omega) (.cells #[.int .i64 (a:Int),.int .u64 (v:Int),.bool false] 92));have ZN:=hid (Bx.new H 92 #[.int .i64 (a:Int),.int .u64 (v:Int),.bool false]);have ZL:=hid (Hm XQ.out);obtain⟨X,x⟩:∃X,H.alloc (.cells #[.int .i64 (a:Int),.int .u64 (v:Int),.bool false] 92)=X:=⟨_,rfl⟩;rw[x] at Z0 Z1 ZO ZQ ZB ZN Ls |-;clear x s0 s1 s2 s3 M O L K;refine (ins_c z dw s i ⟨(a:Int),v,false⟩ H.heap.size w1.heap.size X hm2 Mh (by omega) ZQ.out ZN.out ZL.out).mono ?_;rintro e w7 ⟨⟨T,R,rfl,Ld⟩,o⟩;have t:∀k,k<w1.heap.size->some k≠(Value.slice z dw.length s).ownBlock:=λk Q=>bQ ZQ.out Q;have Md:=o.size;have y0:Bx w7 w.heap.size _ _:=(o.block w.heap.size (by omega) (by first|exact t _ l|exact (t _ l).symm)).trans Z0.out
  have y1:Bx w7 (w.heap.size+1) _ _:=(o.block (w.heap.size+1) (by omega) (by first|exact t _ b|exact (t _ b).symm)).trans Z1.out;have yb:Below w.heap.size w w7:=ZB.out.trans ⟨o.os,o.tape,o.output,o.size,λk Q=>o.block k (by omega) (by first|exact t _ (by omega) | exact (t _ (by omega)).symm)⟩;have yo:=aN ZO.out o (dg ZO.out ZQ.out (by decide));have Y0:=hid (show Bx (w7.setCell ⟨w.heap.size,1,none⟩ (.slice T (dw.length+1) R)) w.heap.size 79 #[.slice J n I,.slice T (dw.length+1) R,.int .i64 l2,.bool dn] from y0.set_ 1 _);have Y1:=hid (y1.far (p:=⟨w.heap.size,1,none⟩) (show w.heap.size+1≠w.heap.size by omega) (.slice T (dw.length+1) R));have YO:=hid (aw yo (p:=⟨w.heap.size,1,none⟩) (bQ yo l).symm (.slice T (dw.length+1) R));have YQ:=hid (aw Ld (p:=⟨w.heap.size,1,none⟩) (bQ Ld l).symm (.slice T (dw.length+1) R));have YB:=hid (yb.setCell (p:=⟨w.heap.size,1,none⟩) (kqa _) (.slice T (dw.length+1) R));obtain⟨s0,s1,s2,s3,M,O,L,K,slt⟩:=y0.c4;clear o Ld y0 y1 yb yo t Md;go_wp2_with (first
   | ((with_reducible refine aQ 79 (.tmp 3) ?_);refine ldD Y0.out ?_)
   | ((with_reducible refine ar 79 (.tmp 6) _ ?_);refine stD Y1.out ?_;intro w9 G j))
  refine kqq (v:=.tuple #[.agg #[.slice J n I,.slice T (dw.length+1) R,.int .i64 l2,.bool dn],.int .i64 0]) (bi results180 _ G.out rfl rfl rfl) rfl ⟨⟨_,rfl,by
   have Lt:(dw.take i++(⟨(a:Int),v,false⟩:Dw)::dw.drop i).length=dw.length+1:=by rw[kqs,kq2,kq4,kzp];omega
   rw[HV.out,Lc.out];unfold lX;dsimp only;rw[Lt];exact⟨J,I,T,R,by rw[q.out],by rw[q.out];exact U,by rw[q.out];exact am (aq YO.out j.out b) f.out.size,am (aq YQ.out j.out b) f.out.size⟩⟩,j.out.below YB.out (by omega)⟩
 rw[hf] at C;have Mg:i<dw.length:=by
  rcases kq7 i dw.length with h|h
  .exact h
  unfold vG at hf;rw[kzc h] at hf;cases hf
 have Lc:=hid (show stQ dw (a:Int) v=dw.set i ⟨(a:Int),v,false⟩ by rw[C.out,if_pos rfl]);clear C hf;obtain⟨g,c9,Lj⟩:=gt XQ.out (by omega);obtain⟨rfl,-,rfl⟩:z=some ⟨g,0,none⟩/\dw.length=dw.length/\s=c9:=by injection Lj with h1 h2 h3;exact⟨h1,h2,h3⟩
 have hgb:w1.heap.size<=g:=ft XQ.out;have hki:(i:Int)<(dw.length:Int):=by omega
 have hk0:(0:Int)<=(i:Int):=by omega
 have Lr:H.there g (i*3) (#[.int .i64 (a:Int),.int .u64 (v:Int),.bool false]:Array Value).size:=jU XQ.out (i*3) 3 (by omega);have Lm:(prog.info? 92).map (·.size)=some (#[.int .i64 (a:Int),.int .u64 (v:Int),.bool false]:Array Value).size:=by kernel_rfl
 have Lu:(#[.int .i64 (a:Int),.int .u64 (v:Int),.bool false]:Array Value).all (·.oneCell')=true:=by simp[Value.oneCell']
 have hx:=dE (Dw.cells ⟨(a:Int),v,false⟩) (i*3) H _ XQ.out;rw[Cp dw i _ Mg] at hx;have YQ:=hid hx;have YA:Hid (iE H (H.setCells g (i*3) (Dw.cells ⟨(a:Int),v,false⟩)) g):=hid ⟨cY _ _ _,λg' Mc=>dN Mc _ _ _,λB hB=>bh hB _ (kqk _ _)⟩;have YO:=hid (aN XO.out YA.out.grown (show (Value.slice J n I).ownBlock=none\/(Value.slice J n I).ownBlock≠some g from dg XO.out XQ.out (by decide)));have Y0:=hid (YA.out.bx Y.out (show w.heap.size≠g by omega));have Y1:=hid (YA.out.bx X1.out (show w.heap.size+1≠g by omega));have YB:=hid (YA.out.below XB.out (show w.heap.size<=g by omega));obtain⟨cs,Kz⟩:∃cs:Array Value,#[.int .i64 (a:Int),.int .u64 (v:Int),.bool false]=cs:=⟨_,rfl⟩;obtain⟨X,x⟩:∃X,H.setCells g (i*3) (Dw.cells ⟨(a:Int),v,false⟩)=X:=⟨_,rfl⟩;have Lz:H.setCells g (i*3) cs.toList=X:=by rw[<-Kz];exact x
 rw[x] at YQ YA YO Y0 Y1 YB;rw[Kz] at Lr Lm Lu;clear x hx Lj Ln;go_wp2_with (first
  | ((with_reducible refine aQ 79 (.tmp 3) ?_);refine ldD Y.out ?_)
  | ((with_reducible refine aQ 79 (.tmp 3) ?_);refine ldD Y0.out ?_)
  | ((with_reducible refine aQ 92 (.tmp 10) ?_);refine kxj rfl _ _ rfl b3 (by rfl) 92 _ (0,0) _ XD.out underlying92 (by rfl) (by kernel_rfl) ?_)
  | ((with_reducible refine ar 92 (.tmp 42) _ ?_);refine kju rfl _ _ _ rfl g (i*3) cs (by rfl) (by rw[<-Kz];rfl) Lr Lm Lu ?_;rw[Lz])
  | ((with_reducible refine ar 79 (.tmp 6) _ ?_);refine stD Y1.out ?_;intro w9 G j))
 refine kqq (v:=.tuple #[.agg #[.slice J n I,.slice (some ⟨g,0,none⟩) dw.length s,.int .i64 l2,.bool dn],.int .i64 0]) (bi results180 _ G.out rfl rfl rfl) rfl ⟨⟨_,rfl,by
  rw[HV.out,Lc.out];exact⟨J,I,some ⟨g,0,none⟩,s,by rw[kq3,q.out],by rw[q.out];exact U,by rw[q.out];exact am (aq YO.out j.out b) f.out.size,by rw[kq3];exact am (aq YQ.out j.out b) f.out.size⟩⟩,j.out.below YB.out (by omega)⟩
end Go.Proofs.YtpcajamacpbjcaaGreat
