/- Devices: what the program returns (where a dirty word is, or would be). -/
import Derived.Test.YtpcajamacpbjcaaGreatZGA
import Derived.Test.YtpcajamacpbjcaaGreatZKWnt
import Derived.Shelf.Spec.SlicesInsertGrow
import Derived.Test.YtpcajamacpbjcaaGreatZKCo
set_option maxHeartbeats 16000000
set_option maxRecDepth 100000
set_option linter.all false
namespace Go.Proofs.YtpcajamacpbjcaaGreat
open Lib (hid)
open Go.RowKit
variable {R V X:List Value}{k n o:Nat}{w w':World}
open Go.Proofs.Tryz
def rQ (x y:Int):Int:=if x<y then -1 else if y<x then 1 else 0
theorem lS(x:Int)(w:World):Calls prog 289 #[.int .i64 x] w λe w'=>e=.returned (.bool false)/\w=w':=by go_enter func289,ntmps289;go_wp2;go_ret;exact⟨by simp,rfl⟩
theorem Ez(x y:Int)(w:World):Calls prog 268 #[.int .i64 x,.int .i64 y] w λe w'=>e=.returned (.int .i64 (rQ x y))/\w=w':=by
 by_cases c:x<y
 .have b:Hid (rQ x y = -1):=hid (by unfold rQ;rw[if_pos c]);go_enter func268,ntmps268;go_wp2_with fail;refine (lS x w).mono ?_;rintro e a ⟨rfl,rfl⟩;go_wp2_with fail;refine (lS y w).mono ?_;rintro e a ⟨rfl,rfl⟩;go_wp2;go_ret;exact⟨by rw[b.out];rfl,rfl⟩
 by_cases d:y<x
 .have b:Hid (rQ x y=1):=hid (by unfold rQ;rw[if_neg c,if_pos d]);go_enter func268,ntmps268;go_wp2_with fail;refine (lS x w).mono ?_;rintro e a ⟨rfl,rfl⟩;go_wp2_with fail;refine (lS y w).mono ?_;rintro e a ⟨rfl,rfl⟩;go_wp2;go_ret;exact⟨by rw[b.out];rfl,rfl⟩
 have b:Hid (rQ x y=0):=hid (by unfold rQ;rw[if_neg c,if_neg d]);go_enter func268,ntmps268;go_wp2_with fail;refine (lS x w).mono ?_;rintro e a ⟨rfl,rfl⟩;go_wp2_with fail;refine (lS y w).mono ?_;rintro e a ⟨rfl,rfl⟩;go_wp2;go_ret;exact⟨by rw[b.out];rfl,rfl⟩
theorem IZ(x a:Int)(v:Nat)(f:Bool)(w:World):Calls prog 267 #[.agg #[.int .i64 x,.int .u64 (v:Int),.bool f],.int .i64 a] w λe w'=>e=.returned (.int .i64 (rQ x a))/\Below w.heap.size w w':=by have b:=hid (λW=>Ez x a W);have d:=hid ((kqk w.heap.size w).alloc (kqa _) (.cells #[.int .i64 x,.int .u64 (v:Int),.bool f] 92));obtain⟨q,c⟩:=xq (rQ x a);rw[c] at b |-;clear c;go_enter func267,ntmps267;go_wp2_with fail;refine (b.out _).mono ?_;rintro e w1 ⟨rfl,rfl⟩;go_wp2;go_ret;exact⟨rfl,d.out⟩
def EF (l:List Dw) (a:Int) (i:Nat):Prop:=i<=l.length/\(∀k (h:k<l.length),k<i->l[k].a<a)/\∀k (h:k<l.length),i<=k->a<=l[k].a
def uY (l:List Dw) (a:Int) (i:Nat):Bool:=match l[i]? with | some e=>e.a==a | none=>false
def GX (l:List Dw) (a:Int) (e:Ending):Prop:=∃i:Nat,e=.returned (.tuple #[.int .i64 (i:Int),.bool (uY l a i)])/\EF l a i
theorem inc_of :∀ {l:List Dw} {b:Int},iM n l b=true->l.Pairwise (λx y=>x.a<y.a):=by
 intro l
 induction l with
 | nil=>intro b _;exact List.Pairwise.nil
 | cons e l ih =>intro b h;simp only[iM,kqt,kzc] at h;exact List.Pairwise.cons (λx c=>(fS h.2.2 x c).1) (ih h.2.2)
theorem tQ(A:Option Addr)(l:List Dw)(c n:Nat)(a:Int)(w:World)(hn:l.length=n)(hm:n<=1000000)(hinc:l.Pairwise (λx y=>x.a<y.a))(hr:RdQ w w.heap.size A l):
 Calls prog 266 #[.slice A n c,.int .i64 a,.func (.func 267) #[] #[]] w λe w'=>GX l a e/\Below w.heap.size w w':=by
 subst hn;have HR:=hid hr;have HI:=hid (kzd.1 hinc);have K:=hid (λx v f W=>IZ x a v f W);clear hr hinc;go_enter func266,ntmps266;go_wp2_with fail;go_loopw [9,10] (λi j wr=>∃p q:Nat,p<=q/\q<=l.length/\i=.int .i64 p/\j=.int .i64 q/\Hid (∀k (h:k<l.length),k<p->l[k].a<a)/\Hid (∀k (h:k<l.length),q<=k->a<=l[k].a)/\Below w.heap.size w wr) (λi j _=>(RowKit.intOf j).toNat-(RowKit.intOf i).toNat)
 case atStart=>exact⟨0,l.length,kqy _,kqa _,rfl,rfl,hid λk h h2=>by omega,hid λk h h2=>by omega,kqk _ _⟩
 obtain⟨p,q,hpq,M,rfl,rfl,HL,HU,B⟩:=hrel;have Z:=B.size;by_cases hlt:p<q
 .have T:(p+q)/2<l.length:=by omega
  obtain⟨h,O⟩:=xq ((p+q)/2);rw[O] at T;have hph:p<=h:=by omega
  have hhq:h<q:=by omega
  have i1:IntKind.u64.wrap ((p:Int)+(q:Int))=((p+q:Nat):Int):=by rw[kzt _ (by omega)];omega
  have i2:((p+q:Nat):Int)/2=(h:Int):=by omega
  have i3:((p:Int)+(q:Int))/2=(h:Int):=by omega
  obtain⟨b,o,rfl,V,N,P,R⟩:=RdQ.at_ (show RdQ wr w.heap.size A l from HR.out.below B) T;have r:=hid (K.out l[h].a l[h].v l[h].f wr);have HX:=hid (λk (g:k<l.length) (u:k<h)=>HI.out k h g T u);have U:=hid (λk (g:k<l.length) (u:h<k)=>HI.out h k T g u);obtain⟨x,E⟩:=xq (l[h]);have F:=hid (show ∀k (g:k<l.length),k=h->l[k].a=x.a from λk g e=>by subst e;rw[E]);rw[E] at N P R r;simp only[E] at HX U;obtain⟨G,xv,xf⟩:=x;dsimp only at N P R r HX U F;have L:(h:Int)<(l.length:Int):=by omega
  have Y:(0:Int)<=(h:Int):=by omega
  clear E O;by_cases C:G<a
  .have z:rQ G a = -1:=by unfold rQ;rw[if_pos C]
   rw[z] at r;have X:Hid (∀k (g:k<l.length),k<h+1->l[k].a<a):=hid λk g u=>by
    rcases kq6 k h with J|J
    .have:=HX.out k g J;omega
    have:=F.out k g (by omega);omega
   have I:=hid B;clear z C B;go_wp2_with fail;refine r.out.mono ?_;rintro e w5 ⟨rfl,d⟩;have t:=hid (I.out.trans (d.mono Z));clear d;go_wp2;go_roundw
   case rel=>exact⟨h+1,q,by omega,M,by go_num,rfl,X,HU,t.out⟩
   case measure=>simp[RowKit.intOf];omega
  have z:0<=rQ G a:=by unfold rQ;rw[if_neg C];split<;>omega
  obtain⟨H,s⟩:=xq (rQ G a);rw[s] at r z;have Eq:Hid (∀k (g:k<l.length),h<=k->a<=l[k].a):=hid λk g u=>by
   rcases kq6 h k with J|J
   .have:=U.out k g J;omega
   have:=F.out k g (by omega);omega
  have hd:decide (H<0)=false:=by rw[kqc];omega
  have I:=hid B;clear s C B z;go_wp2_with fail;refine r.out.mono ?_;rintro e w5 ⟨rfl,d⟩;have t:=hid (I.out.trans (d.mono Z));clear d;go_wp2;go_roundw
  case rel=>exact⟨p,h,by omega,by omega,rfl,by go_num,HL,Eq,t.out⟩
  case measure=>simp[RowKit.intOf];omega
 obtain rfl:p=q:=by omega
 have HF:=hid (show EF l a p from ⟨M,HL.out,HU.out⟩);have I:=hid B;have hend:decide ((p:Int)<(p:Int))=false:=by rw[kqc];omega
 by_cases D:p<l.length
 .obtain ⟨b,o,rfl,V,N,P,R⟩:=RdQ.at_ (show RdQ wr w.heap.size A l from HR.out.below B) D;have r:=hid (K.out l[p].a l[p].v l[p].f wr);have m:uY l a p=(l[p].a==a):=by unfold uY;rw[kql D]
  obtain⟨x,E⟩:=xq (l[p]);rw[E] at N P R r m;obtain⟨G,xv,xf⟩:=x;dsimp only at N P R r m;have S:(rQ G a==0)=uY l a p:=by
   rw[m,kzg,kqw,kqw];unfold rQ;split
   .omega
   split<;>omega
  have Q:=hid S;obtain⟨H,s⟩:=xq (rQ G a);rw[s] at r Q;have L:(p:Int)<(l.length:Int):=by omega
  have Y:(0:Int)<=(p:Int):=by omega
  clear E m S s B;go_wp2_with fail;refine r.out.mono ?_;rintro e w5 ⟨rfl,d⟩;have t:=hid (I.out.trans (d.mono Z));clear d;go_wp2;go_ret2;exact⟨⟨p,by rw[<-Q.out];rfl,HF.out⟩,t.out⟩
 have m:Hid (uY l a p=false):=hid (by unfold uY;rw[kzi (by omega)]);have L:decide ((p:Int)<(l.length:Int))=false:=by rw[kqc];omega
 have hkn:decide (p<l.length)=false:=by rw[kqc];exact D
 clear D B;go_wp2;go_ret2;exact⟨⟨p,by rw[m.out];rfl,HF.out⟩,I.out⟩
theorem E3(A DA:Option Addr)(dw:List Dw)(lf:Int)(dn:Bool)(n c m dc:Nat)(a:Int)(w:World)(hm:dw.length=m)(hm2:m<=1000000)(hinc:dw.Pairwise (λx y=>x.a<y.a))(hr:RdQ w w.heap.size DA dw):
 Calls prog 227 #[.agg #[.slice A n c,.slice DA m dc,.int .i64 lf,.bool dn],.int .i64 a] w λe w'=>GX dw a e/\Below w.heap.size w w':=by have f:=hid (λW (h:RdQ W W.heap.size DA dw)=>tQ DA dw dc m a W hm hm2 hinc h);unfold GX at f |-;have b:=hid ((kqk w.heap.size w).alloc (kqa _) (.cells #[.slice A n c,.slice DA m dc,.int .i64 lf,.bool dn] 79));have j:=hid hr;clear hr hinc hm;go_enter func227,ntmps227;go_wp2_with fail;refine (f.out _ (j.out.up b.out b.out.size)).mono ?_;rintro e w1 ⟨⟨i,rfl,g⟩,d⟩;have k:=hid g;clear g;go_wp2;go_ret2;exact⟨⟨i,rfl,k.out⟩,b.out.trans (d.mono b.out.size)⟩
theorem stQ_at{a:Int}{v:Nat}:∀ {l:List Dw} {i:Nat},EF l a i->stQ l a v=if uY l a i=true then l.set i ⟨a,v,false⟩ else l.take i++⟨a,v,false⟩::l.drop i:=by
 intro l
 induction l with
 | nil =>
  intro i h;have:i=0:=by have:=h.1;simpa using this
  subst this;rfl
 | cons e l ih =>
  intro i h;cases i with
  | zero =>
   have m:=h.2.2 0 (by simp) (kqa _);simp only[kqe] at m;unfold stQ;rw[if_neg (by omega)];by_cases b:e.a=a
   .rw[if_pos b,if_pos (by unfold uY;simp[b])];rfl
   rw[if_neg b,if_neg (by unfold uY;simp[b])];rfl
  | succ i =>
   have f:=h.2.1 0 (by simp) (by omega);simp only[kqe] at f;have j:EF l a i:=by
    refine⟨by have:=h.1;simpa using this,λk c d=>?_,λk c d=>?_⟩
    .have:=h.2.1 (k+1) (by simpa using c) (by omega)
     simpa using this
    have:=h.2.2 (k+1) (by simpa using c) (by omega)
    simpa using this
   have g:uY (e::l) a (i+1)=uY l a i:=by unfold uY;simp
   unfold stQ;rw[if_pos f,ih j,g];split<;>rfl
theorem fY{P:Program}(w:World)(dT sT ty elem:TypeId)(sz k b o dLen dCap:Nat)(a:Addr)(sLen sCap:Nat)(cs:List Value)(hu:P.underlying dT=some (.slice elem))(hs:(P.info? elem).map (·.size)=some sz)(hk:Nat.min sLen dLen=k)(hn:cs.length=k*sz)(hsrc:∀j v,cs[j]? = some v->w.cell? (a.add j)=some v)(hc:∀j,j<cs.length->(w.cell? ⟨b,o+j,none⟩).isSome=true)(hf:∀j,j<cs.length->w.frozen? ⟨b,o+j,none⟩=false)(h1:∀v∈cs,v.oneCell'=true):
 (Builtin.copy_ #[dT,sT] ty #[.slice (some ⟨b,o,none⟩) dLen dCap,.slice (some a) sLen sCap]).run P w=.ok (goInt k) (w.setCells b o cs):=by
 have e:=run_loadCells_list (P:=P) w a cs hsrc;have c:=run_storeCells_cells (P:=P) b o cs 0 w (by simpa using hc) (by simpa using hf) h1;rw[hn] at e;cases d:P.info? elem with
 | none=>simp[d] at hs
 | some i =>
  have f:i.size=sz:=by simpa [d] using hs
  simp[Builtin.copy_,run_underlying hu,Builtin.lenOf,Builtin.firstCells,sizeOf,typeInfo,d,f,hk,e,c]
theorem lN:∀(vs xs:List Value) (o:Nat),o+vs.length<=xs.length->sW xs o vs=xs.take o++(vs++xs.drop (o+vs.length)):=by
 intro vs
 induction vs with
 | nil=>intro xs o _;simp[sW]
 | cons v vs ih =>
  intro xs o h;rw[kq0] at h;show sW (xs.set o v) (o+1) vs=_;rw[ih _ _ (by rw[kq4];omega)];have b:(xs.set o v).take (o+1)=xs.take o++[v]:=by rw[kqp (by rw[kq4];omega),kvr (kqa _)];simp
  have a:(xs.set o v).drop (o+1+vs.length)=xs.drop (o+(vs.length+1)):=by rw[kvs (by omega)];congr 1;omega
  rw[b,a,kxs];rfl
theorem DR{S:List Value}(hx:X=S++R)(ho:o<=S.length)(hV:V.length=k)(hR:R.length=k):sW (sW X (o+k) (S.drop o)) o V=S.take o++(V++S.drop o):=by subst hx;have a:(S.drop o).length=S.length-o:=kzv;rw[lN (S.drop o) (S++R) (o+k) (by rw[kqu,a,hR];omega)];have b:(S++R).drop (o+k+(S.drop o).length)=[]:=kjf (by rw[kqu,a,hR];omega);rw[b,kzs,lN _ _ _ (by rw[kqu,kq3,kqu,a,hV,hR];omega)];rw[kz9 (by rw[kq3,kqu,hR];omega),kkd,kxc (by omega),kz9 ho];congr 2;rw[kvh,kjf (by rw[kq3,kqu,hR,hV];omega),kz1,kq3,kqu,hR,hV,kxc (by omega),kvt];rfl
theorem rN(l:List Dw)(i:Nat)(x:Dw):(l.take i++x::l.drop i).flatMap Dw.cells=(l.flatMap Dw.cells).take (i*3)++(x.cells++(l.flatMap Dw.cells).drop (i*3)):=by rw[kxk,kzx,iA Dw.cells 3 Dw.len,r9 Dw.cells 3 Dw.len]
theorem dQ{r:Option Nat}(h:Below w.heap.size w w'):w.grownBy w' r:=⟨h.os,h.tape,h.output,h.size,λk a _=>h.block k a⟩
theorem eF{g:Nat}{vs:List Value}(h:w.grownBy w' (some g)):w.grownBy (w'.setCells g o vs) (some g):=by have b:=a9 (B:=0) (kqy g) vs (o:=o) (kqk 0 w');refine⟨b.os.trans h.os,b.tape.trans h.tape,b.output.trans h.output,by rw[cY];exact h.size,λk c a=>?_⟩;rw[dD (λe=>a (by rw[e]))];exact h.block k c a
open Go.RowKit Go.Lib
def FO (l:List Dw) (i:Nat) (x:Dw) (H:Nat) (r:Option Nat) (w:World) (e:Ending) (w':World):Prop:=(∃A c,e=.returned (.slice A (l.length+1) c)/\w'.ownsRow H 92 3 (.slice A (l.length+1) c) (l.length+1) ((l.take i++x::l.drop i).flatMap Dw.cells))/\w.grownBy w' r
theorem Er(DA:Option Addr)(l:List Dw)(dc:Nat)(x:Dw)(vb H:Nat)(w:World)(hm:l.length<=1000000)(hH:H<=w.heap.size)(hown:w.ownsRow H 92 3 (.slice DA l.length dc) l.length (l.flatMap Dw.cells))(hv:Bx w vb 92 #[.int .i64 x.a,.int .u64 (x.v:Int),.bool x.f]):
 Calls prog 228 #[.slice DA l.length dc,.int .i64 (l.length:Int),.slice (some ⟨vb,0,none⟩) 1 1] w λe w'=>FO l l.length x H (Value.slice DA l.length dc).ownBlock w e w':=by
 have i:=cH hown;have B:=hid hown;have t:Hid (∀j u,([.int .i64 x.a,.int .u64 (x.v:Int),.bool x.f]:List Value)[j]? = some u->w.cell? ((⟨vb,0,none⟩:Addr).add j)=some u):=hid λj u E=>by
  rw[gi,kxd,hv.cell j]
  simpa using E
 have z:Hid ((l.take l.length++x::l.drop l.length).flatMap Dw.cells=l.flatMap Dw.cells++[.int .i64 x.a,.int .u64 (x.v:Int),.bool x.f]):=hid (by rw[kzl,kkc,kxk];rfl);obtain⟨C,y,m,o,q⟩:=kzw Ag;have A:=hid y;have p:=hid m;have n:=hid o;have k:=hid q;clear y m o q;by_cases r:dc=l.length
 .subst r;clear hown hv i;go_enter func228,ntmps228;go_wp2_with (at_builtin;refine kze _ rfl _ _ 77 rfl H 92 C _ 3 24 underlying77 A.out p.out n.out k.out rfl (by decide) _ _ _ rfl B.out ⟨vb,0,none⟩ 1 1 [.int .i64 x.a,.int .u64 (x.v:Int),.bool x.f] rfl rfl t.out (by simp[Value.oneCell']) (by unfold maxLen;omega) (by omega) hH ?_;intro v1 D b c _;obtain⟨s,d,rfl⟩:=aO b;have g:=hid b;have h:=hid c;clear b c);go_ret;exact⟨⟨s,d,rfl,by rw[z.out];exact g.out⟩,h.out⟩
 clear hown hv;go_enter func228,ntmps228;go_wp2_with (at_builtin;refine kze _ rfl _ _ 77 rfl H 92 C _ 3 24 underlying77 A.out p.out n.out k.out rfl (by decide) _ _ _ rfl B.out ⟨vb,0,none⟩ 1 1 [.int .i64 x.a,.int .u64 (x.v:Int),.bool x.f] rfl rfl t.out (by simp[Value.oneCell']) (by unfold maxLen;omega) (by omega) hH ?_;intro v1 D b c _;obtain⟨s,d,rfl⟩:=aO b;have g:=hid b;have h:=hid c;clear b c);go_ret;exact⟨⟨s,d,rfl,by rw[z.out];exact g.out⟩,h.out⟩
theorem Is(g:Nat)(l:List Dw)(b i:Nat)(x:Dw)(vb H:Nat)(w:World)(hm:l.length<=1000000)(hi:i<l.length)(hroom:l.length+1<=b)(_hH:H<=w.heap.size)(hown:w.ownsRow H 92 3 (.slice (some ⟨g,0,none⟩) l.length b) l.length (l.flatMap Dw.cells))(n:Bx w vb 92 #[.int .i64 x.a,.int .u64 (x.v:Int),.bool x.f])(hvb:vb≠g):
 Calls prog 228 #[.slice (some ⟨g,0,none⟩) l.length b,.int .i64 (i:Int),.slice (some ⟨vb,0,none⟩) 1 1] w λe w'=>FO l i x H (some g) w e w':=by
 obtain⟨p,s,Eq,hle,I,B,C⟩:=nj hown;have T:(l.flatMap Dw.cells).length=l.length*3:=cw Dw.cells 3 Dw.len l;have hc63:b<=9223372036854775807:=by unfold maxLen at I;exact I
 have R:∀o lb cb,(callFunc 269 #[.slice (some ⟨vb,0,none⟩) 1 1,.slice (some ⟨g,o,none⟩) lb cb]).run prog w=.ok (.value (.bool false)) w:=λo lb cb=>by
  rw[run_callFunc_extern func269 (by kernel_rfl) (by kernel_rfl) (by kernel_rfl) (e:=Extern.SlicesOverlaps.overlaps #[77,77] #[4]) (by kernel_rfl),
   Lib.run_overlaps_apart w 77 4 92 underlying77 3 (λw=>by kernel_rfl) ⟨vb,0,none⟩ ⟨g,o,none⟩ 1 1 lb cb hvb 92 92 3 (b*3) (by simp[World.shape?,show w.heap[vb]? = _ from n]) (by simp[World.shape?,s,B]) (by omega) (by rw[n.frozen]) (by rw[n.frozen])]
  rfl
 have t:∀j v,p[j]? = some v->w.cell? ⟨g,j,none⟩=some v:=λj v c=>by
  simp[World.cell?,s,c]
 have d:∀j,j<b*3->(w.cell? ⟨g,j,none⟩).isSome=true:=λj c=>by
  rw[t j (p[j]'(by omega)) (kql _)];rfl
 have D:∀j,w.frozen? ⟨g,j,none⟩=false:=λj=>by
  simp[World.frozen?,s]
 have q:∀v∈l.flatMap Dw.cells,v.oneCell'=true:=λv n=>by
  obtain⟨y,-,hy⟩:=kvg.1 n;simp only[Dw.cells,kqx,kzf,or_false] at hy;rcases hy with rfl|rfl|rfl<;>rfl
 have F:∀j v,(l.flatMap Dw.cells)[j]? = some v->w.cell? ⟨g,j,none⟩=some v:=λj v c=>by
  apply t;rw[<-C] at c;have:=kk6 (l:=p) (i:=l.length*3) (j:=j);rw[this] at c;split at c
  .exact c
  cases c
 obtain⟨S,z⟩:=xq (l.flatMap Dw.cells);obtain⟨X,O⟩:=xq (p.take ((l.length+1)*3));have r:w.drew.ownsRow H 92 3 (.slice (some ⟨g,0,none⟩) (l.length+1) b) (l.length+1) X:=by
  refine⟨by rw[<-O,kq3];omega,Or.inr ⟨g,b,p.toArray,rfl,Eq,s,hroom,I,by simpa using B,?_⟩⟩
  simpa using O
 have Q:X=S++X.drop (l.length*3):=by
  have K:X.take (l.length*3)=S:=by rw[<-O,kkd,kxc (by omega),<-z];exact C
  rw[<-K,kxa]
 have P:(X.drop (l.length*3)).length=3:=by rw[kzv,<-O,kq3];omega
 rw[z] at T q F;have N:(S.drop (i*3)).length=(l.length-i)*3:=by rw[kzv,T];omega
 have u:∀E b U,(Builtin.copy_ #[77,77] E #[.slice (some ⟨g,(i+1)*3,none⟩) (l.length-i) b,.slice (some ⟨g,i*3,none⟩) (l.length+1-i) U]).run prog w.drew=.ok (goInt ((l.length-i:Nat):Int)) (w.drew.setCells g ((i+1)*3) (S.drop (i*3))):=λE b U =>
  fY w.drew 77 77 E 92 3 (l.length-i) g ((i+1)*3) (l.length-i) b ⟨g,i*3,none⟩ (l.length+1-i) U (S.drop (i*3)) underlying77 (by kernel_rfl) (by simp only[Nat.min_def];split<;>omega) N
   (λj v c=>by rw[gi];exact F (i*3+j) v (by rwa [kx9] at c))
   (λj c=>d _ (by omega)) (λj c=>D _) (λv n=>q v (kjb n))
 obtain⟨G,m⟩:∃G,G=w.drew.setCells g ((i+1)*3) (S.drop (i*3)):=⟨_,rfl⟩;have A:∀k,k<b*3->(G.cell? ⟨g,k,none⟩).isSome=true:=λk hk=>by
  rw[m];exact World.isSome_setCells g _ _ _ _ (d k hk)
 have J:∀(W:World),(∀x,W.cell? x=G.cell? x)->(∀x,W.frozen? x=G.frozen? x)->∀E b,(Builtin.copy_ #[77,77] E #[.slice (some ⟨g,i*3,none⟩) (l.length+1-i) b,.slice (some ⟨vb,0,none⟩) 1 1]).run prog W=.ok (goInt 1) (W.setCells g (i*3) x.cells):=λW M Y E b =>
  fY W 77 77 E 92 3 1 g (i*3) (l.length+1-i) b ⟨vb,0,none⟩ 1 1 x.cells underlying77 (by kernel_rfl) (by simp only[Nat.min_def];split<;>omega) rfl
   (λj v c=>by
    rw[gi,kxd,M,m,kx5 g _ _ _ _ (λh _=>absurd h hvb)];exact (n.cell j).trans (by simpa [Dw.cells] using c))
   (λj c=>by rw[M];exact A _ (by have:x.cells.length=3:=rfl;omega)) (λj c=>by rw[Y,m,World.frozen?_setCells];exact D _) (λv n=>by
    simp only[Dw.cells,kqx,kzf,or_false] at n;rcases n with rfl|rfl|rfl<;>rfl)
 have L:Hid ((G.setCells g (i*3) x.cells).ownsRow H 92 3 (.slice (some ⟨g,0,none⟩) (l.length+1) b) (l.length+1) ((l.take i++x::l.drop i).flatMap Dw.cells)):=hid (by
  have K:=dr x.cells (i*3) _ _ (dr (S.drop (i*3)) ((i+1)*3) _ _ r);rw[<-m] at K;have e1:(i+1)*3=i*3+3:=by omega
  rw[e1,DR (o:=i*3) (k:=3) (V:=x.cells) Q (by omega) rfl P] at K;rw[rN,z];exact K)
 have Z:Hid (w.grownBy (G.setCells g (i*3) x.cells) (some g)):=hid (by
  rw[m];exact eF (eF (dQ (kjh (kqk _ w)))))
 rw[<-m] at u;have hz1:¬ ((i:Int)=(l.length:Int)):=by omega
 have hb2:¬ (b=i+1):=by omega
 have hb4:¬ (b=i):=by omega
 have hin:i<=l.length:=by omega
 have hw1:IntKind.i64.wrap ((i:Int)+1)=(i:Int)+1:=by rw[IntKind.wrap_i64];omega
 have hw2:IntKind.i64.wrap ((l.length:Int)+1)=(l.length:Int)+1:=by rw[IntKind.wrap_i64];omega
 have hb3:(i:Int)<=(l.length:Int)+1:=by omega
 have hb5:(i:Int)+1<=(l.length:Int)+1:=by omega
 have hb1:(0:Int)<=(i:Int)+1:=by omega
 have htn:((i:Int)+1).toNat=i+1:=by omega
 have htm:((l.length:Int)+1).toNat=l.length+1:=by omega
 have mixed:prog.follows .mixedOrders=true:=by kernel_rfl
 clear m hown n C B s t d D q F O r Q P T N A z;go_enter func228,ntmps228;go_wp2_with (simp only[R])
 go_region_law_o (refine step_copy_runI rfl _ _ 77 77 rfl _ _ (by simp[Act.eval,Act.put]) (by simp[Act.eval,Act.put]) (u _ _ _) ?_)
 clear u;go_wp2_with ((with_reducible refine nt ?_);refine wpList_copy_runI _ rfl _ _ 77 77 rfl _ _ rfl rfl (J _ (λ_=>rfl) (λ_=>rfl) _ _) ?_);go_ret;exact⟨⟨_,_,rfl,L.out⟩,Z.out⟩
theorem DG{T D:List Value}(hx:X=T++R)(hT:T.length=o)(hV:V.length=k)(hR:R.length=k+D.length):sW (sW X o V) (o+k) D=T++(V++D):=by
 subst hx;have b:sW (T++R) o V=T++(V++R.drop k):=by rw[lN _ _ _ (by rw[kqu,hT,hV,hR];omega),kz9 (by omega),kq5 (by omega),kvh,kjf (by omega),kz1,hT,hV];congr 2;congr 1;omega
 rw[b,lN _ _ _ (by simp only[kqu,kzv,hT,hV,hR];omega)];have a:(T++(V++R.drop k)).drop (o+k+D.length)=[]:=kjf (by simp only[kqu,kzv,hT,hV,hR];omega);rw[a,kzs,<-kxs,kz9 (by rw[kqu];omega),kq5 (by rw[kqu];omega),kxs]
theorem jh(vs:Array Value)(n:Nat):(Builtin.zeroCells vs n).toList.length=n*vs.size:=by simp[Builtin.zeroCells]
theorem C6(g:Nat)(l:List Dw)(i:Nat)(x:Dw)(vb H:Nat)(w:World)(hm:l.length<=1000000)(hi:i<l.length)(hH:H<=w.heap.size)(hown:w.ownsRow H 92 3 (.slice (some ⟨g,0,none⟩) l.length l.length) l.length (l.flatMap Dw.cells))(A:Bx w vb 92 #[.int .i64 x.a,.int .u64 (x.v:Int),.bool x.f]):
 Calls prog 228 #[.slice (some ⟨g,0,none⟩) l.length l.length,.int .i64 (i:Int),.slice (some ⟨vb,0,none⟩) 1 1] w λe w'=>FO l i x H (some g) w e w':=by
 obtain⟨cur,U,hHg,hle,hmx,Kc,O⟩:=nj hown;have hS:(l.flatMap Dw.cells).length=l.length*3:=cw Dw.cells 3 Dw.len l;have Kh:cur=l.flatMap Dw.cells:=by rw[<-O,kq5 (by omega)]
 subst Kh;have z:∀j v,(l.flatMap Dw.cells)[j]? = some v->w.cell? ⟨g,j,none⟩=some v:=λj v m=>by
  simp[World.cell?,U,m]
 have t:∀v∈l.flatMap Dw.cells,v.oneCell'=true:=λv A=>by
  obtain⟨y,-,hy⟩:=kvg.1 A;simp only[Dw.cells,kqx,kzf,or_false] at hy;rcases hy with rfl|rfl|rfl<;>rfl
 obtain⟨S,I⟩:=xq (l.flatMap Dw.cells);have Km:g<w.heap.size:=by have N:=z 0 ((l.flatMap Dw.cells)[0]'(by omega)) (kql _);exact block_lt_of_cell N
 have Kl:vb<w.heap.size:=block_lt_of_cell (v:=.int .i64 x.a) ((A.cell 0).trans (by simp));obtain⟨i0,X,J,T,E⟩:=kzw Ag;have Eq:(l.length:Int)+1-(i:Int)=((l.length+1-i:Nat):Int):=by omega
 have L:i+(l.length+1-i)=l.length+1:=by omega
 rw[I] at hS t z;have d:(S.take (i*3)).length=i*3:=by rw[kq3];omega
 have M:(S.drop (i*3)).length=(l.length-i)*3:=by rw[kzv,hS];omega
 have C:(Builtin.firstCells i0.size i (.slice (some ⟨g,0,none⟩) i l.length)).run prog w.drew=.ok (S.take (i*3)).toArray w.drew:=by
  rw[T];exact run_firstCells_some w.drew 3 i ⟨g,0,none⟩ i l.length (S.take (i*3)) d (λj v m=>by
   rw[gi,kxd];rw[kk6] at m;split at m
   .exact z j v m
   cases m)
 obtain⟨Z,hZ⟩:∃Z:Value,Z=.agg #[.int .i64 0,.int .u64 0,.bool false]:=⟨_,rfl⟩;rw[<-hZ] at J;have p:Z.cells.size=3:=by rw[hZ];rfl
 obtain⟨G,hG⟩:∃G,G=grownCap w (l.length+1) l.length 92:=⟨_,rfl⟩;have K:∀s,(Builtin.append_ #[77,3] s #[.slice (some ⟨g,0,none⟩) i l.length,.int .i64 ((l.length:Int)+1-(i:Int))]).run prog w =
  .ok (.slice (some ⟨w.heap.size,0,none⟩) (l.length+1) G) (w.drew.alloc (.cells ((S.take (i*3)).toArray++Builtin.zeroCells Z.cells (l.length+1-i)++Builtin.zeroCells Z.cells (G-(l.length+1))) 92)):=λs=>by
  have h:=Lib.run_append_grow_zeros w 77 3 s 92 i0 _ .i64 .i64 underlying77 underlying3 X J (some ⟨g,0,none⟩) i l.length (S.take (i*3)) C (l.length+1-i) (by omega) (by omega) (by omega) (by omega) (by rw[E];omega) (by rw[E,L];exact growslice_fits (by omega) (by omega));rw[L,<-hG] at h;rw[Eq];exact h
 have Kj:l.length+1<=G:=by rw[hG];exact grownCap_ge w _ _ _
 have Ka:G<=maxLen:=by rw[hG];exact grownCap_le_maxLen w (l.length+1) l.length 92 (by unfold maxLen;omega)
 have hG63:G<=9223372036854775807:=by unfold maxLen at Ka;omega
 obtain⟨b,n⟩:∃b:Array Value,b=(S.take (i*3)).toArray++Builtin.zeroCells Z.cells (l.length+1-i)++Builtin.zeroCells Z.cells (G-(l.length+1)):=⟨_,rfl⟩;rw[<-n] at K;have Y:b.size=G*3:=by
  have N:b.toList.length=G*3:=by rw[n];simp only[Array.toList_append,kqu,jh,p,d];omega
  simpa using N
 have P:b.toList.take ((l.length+1)*3)=S.take (i*3)++(Builtin.zeroCells Z.cells (l.length+1-i)).toList:=by rw[n];simp only[Array.toList_append];rw[kz9 (by simp only[kqu,jh,p,d];omega),kq5 (by simp only[kqu,jh,p,d];omega)]
 obtain⟨r,c⟩:∃r,r=w.drew.alloc (.cells b 92):=⟨_,rfl⟩;have u:∀W:World,W.heap=r.heap->W.ownsRow H 92 3 (.slice (some ⟨w.heap.size,0,none⟩) (l.length+1) G) (l.length+1) (S.take (i*3)++(Builtin.zeroCells Z.cells (l.length+1-i)).toList):=λW hW=>by
  refine⟨by simp only[kqu,jh,p,d];omega,Or.inr ⟨w.heap.size,G,b,rfl,hH,?_,Kj,Ka,Y,P⟩⟩;rw[hW,c];show (w.heap.push (Obj.cells b 92 (0,0)))[w.heap.size]? = _;simp
 have hN:∀j,j<(l.length+1)*3->(r.cell? ⟨w.heap.size,j,none⟩).isSome=true:=λj m=>by
  rw[c,World.cell?_alloc_at (w:=w.drew) b _ w.heap.size j rfl,kjl (by omega)];rfl
 have Kb:∀j,r.frozen? ⟨w.heap.size,j,none⟩=false:=λj=>by rw[c];exact World.frozen?_alloc_at (w:=w.drew) b _ w.heap.size j rfl
 have Ki:∀j v,w.cell? ⟨g,j,none⟩=some v->r.cell? ⟨g,j,none⟩=some v:=λj v h=>by rw[c,World.cell?_alloc_past (w:=w.drew) _ g j Km];exact h
 have Kn:∀j v,w.cell? ⟨vb,j,none⟩=some v->r.cell? ⟨vb,j,none⟩=some v:=λj v h=>by rw[c,World.cell?_alloc_past (w:=w.drew) _ vb j Kl];exact h
 have R:∀(W:World),(∀x,W.cell? x=r.cell? x)->(∀x,W.frozen? x=r.frozen? x)->∀s D,(Builtin.copy_ #[77,77] s #[.slice (some ⟨w.heap.size,i*3,none⟩) (l.length+1-i) D,.slice (some ⟨vb,0,none⟩) 1 1]).run prog W=.ok (goInt 1) (W.setCells w.heap.size (i*3) x.cells):=λW q F s D =>
  fY W 77 77 s 92 3 1 w.heap.size (i*3) (l.length+1-i) D ⟨vb,0,none⟩ 1 1 x.cells underlying77 (by kernel_rfl) (by simp only[Nat.min_def];split<;>omega) rfl
   (λj v m=>by
    rw[gi,kxd,q];exact Kn _ v ((A.cell j).trans (by simpa [Dw.cells] using m)))
   (λj m=>by rw[q];exact hN _ (by have:x.cells.length=3:=rfl;omega)) (λj m=>by rw[F];exact Kb _) (λv A=>by
    simp only[Dw.cells,kqx,kzf,or_false] at A;rcases A with rfl|rfl|rfl<;>rfl)
 have Kg:g≠w.heap.size:=by omega
 have B:∀(W:World),(∀y,W.cell? y=(r.setCells w.heap.size (i*3) x.cells).cell? y)->(∀y,W.frozen? y=(r.setCells w.heap.size (i*3) x.cells).frozen? y)->∀s D sc,(Builtin.copy_ #[77,77] s #[.slice (some ⟨w.heap.size,(i+1)*3,none⟩) (l.length-i) D,.slice (some ⟨g,i*3,none⟩) (l.length-i) sc]).run prog W=.ok (goInt ((l.length-i:Nat):Int)) (W.setCells w.heap.size ((i+1)*3) (S.drop (i*3))):=λW q F s D sc =>
  fY W 77 77 s 92 3 (l.length-i) w.heap.size ((i+1)*3) (l.length-i) D ⟨g,i*3,none⟩ (l.length-i) sc (S.drop (i*3)) underlying77 (by kernel_rfl) (by simp only[Nat.min_def];split<;>omega) M
   (λj v m=>by
    rw[gi,q,kx5 _ _ _ _ _ (λh _=>absurd h Kg)];exact Ki _ v (z (i*3+j) v (by rwa [kx9] at m)))
   (λj m=>by rw[q];exact World.isSome_setCells _ _ _ _ _ (hN _ (by omega)))
   (λj m=>by rw[F,World.frozen?_setCells];exact Kb _) (λv A=>t v (kjb A))
 have Q:Hid (((((w.alloc (.cells b 92)).drew.setCells w.heap.size (i*3) x.cells).drew).setCells w.heap.size ((i+1)*3) (S.drop (i*3))).ownsRow H 92 3 (.slice (some ⟨w.heap.size,0,none⟩) (l.length+1) G) (l.length+1) ((l.take i++x::l.drop i).flatMap Dw.cells)):=hid (by
  have h0:=dr x.cells (i*3) _ _ (u (w.alloc (.cells b 92)).drew (by rw[c];rfl));have N:=dr (S.drop (i*3)) ((i+1)*3) _ _ (show (((w.alloc (.cells b 92)).drew.setCells w.heap.size (i*3) x.cells).drew).ownsRow H 92 3 _ _ _ from h0);have e1:(i+1)*3=i*3+3:=by omega
  rw[e1,DG (o:=i*3) (k:=3) (V:=x.cells) rfl d rfl (by rw[jh,p,M];omega)] at N;rw[rN,I,e1];exact N)
 have Ko:Hid (w.grownBy ((((w.alloc (.cells b 92)).drew.setCells w.heap.size (i*3) x.cells).drew).setCells w.heap.size ((i+1)*3) (S.drop (i*3))) (some g)):=hid (dQ (a9 (kqa _) _ (kjh (a9 (kqa _) _ (kjh (kji (kqk _ w) (kqa _) _))))));rw[<-c] at K;subst c;have Kf:∀x,((w.alloc (.cells b 92)).drew).cell? x=(w.drew.alloc (.cells b 92)).cell? x:=λx=>rfl;have Kk:∀x,((w.alloc (.cells b 92)).drew).frozen? x=(w.drew.alloc (.cells b 92)).frozen? x:=λx=>rfl;have Kd:∀y,(((w.alloc (.cells b 92)).drew.setCells w.heap.size (i*3) x.cells).drew).cell? y=((w.drew.alloc (.cells b 92)).setCells w.heap.size (i*3) x.cells).cell? y:=λy=>rfl;have Ke:∀y,(((w.alloc (.cells b 92)).drew.setCells w.heap.size (i*3) x.cells).drew).frozen? y=((w.drew.alloc (.cells b 92)).setCells w.heap.size (i*3) x.cells).frozen? y:=λy=>rfl;have hz1:¬ ((i:Int)=(l.length:Int)):=by omega
 have hz3:(l.length:Int)<(l.length:Int)+1:=by omega
 have hGi:¬ (G=i):=by omega
 have hGim:¬ (G=i+1):=by omega
 have hci:¬ (l.length=i):=by omega
 have hin:i<=l.length:=by omega
 have hw1:IntKind.i64.wrap ((i:Int)+1)=(i:Int)+1:=by rw[IntKind.wrap_i64];omega
 have hw2:IntKind.i64.wrap ((l.length:Int)+1)=(l.length:Int)+1:=by rw[IntKind.wrap_i64];omega
 have hw3:IntKind.i64.wrap ((l.length:Int)+1-(i:Int))=(l.length:Int)+1-(i:Int):=by rw[IntKind.wrap_i64];omega
 have hb3:(i:Int)<=(l.length:Int):=by omega
 have hb5:(i:Int)+1<=(l.length:Int)+1:=by omega
 have hb1:(0:Int)<=(i:Int)+1:=by omega
 have htn:((i:Int)+1).toNat=i+1:=by omega
 have htm:((l.length:Int)+1).toNat=l.length+1:=by omega
 have mixed:prog.follows .mixedOrders=true:=by kernel_rfl
 clear hown A O Kc U t z hS M I Eq L C n hG Y P u p hZ J T E X d;go_enter func228,ntmps228;go_wp2_with (first
  | ((with_reducible refine nt ?_);refine wpList_copy_runI _ rfl _ _ 77 77 rfl _ _ rfl rfl (R _ Kf Kk _ _) ?_)
  | ((with_reducible refine nt ?_);refine wpList_copy_runI _ rfl _ _ 77 77 rfl _ _ rfl rfl (B _ (λ_=>rfl) (λ_=>rfl) _ _ _) ?_)
  | (at_builtin;refine Lib.wpList_append_run _ rfl _ _ _ _ rfl _ _ rfl rfl _ _ (K _) ?_))
 go_region_law_o (refine step_copy_runI rfl _ _ 77 77 rfl (.slice (some ⟨w.heap.size,(i+1)*3,none⟩) (l.length-i) (G-(i+1))) (.slice (some ⟨g,i*3,none⟩) (l.length-i) (l.length-i)) (by simp[Act.eval,Act.put]) (by simp[Act.eval,Act.put]) (B _ Kd Ke 3 (G-(i+1)) (l.length-i)) ?_)
 go_wp2;go_ret;exact⟨⟨_,_,rfl,Q.out⟩,Ko.out⟩
theorem ins_c(DA:Option Addr)(l:List Dw)(dc i:Nat)(x:Dw)(vb H:Nat)(w:World)(hm:l.length<=1000000)(hi:i<=l.length)(hH:H<=w.heap.size)(hown:w.ownsRow H 92 3 (.slice DA l.length dc) l.length (l.flatMap Dw.cells))(hv:Bx w vb 92 #[.int .i64 x.a,.int .u64 (x.v:Int),.bool x.f])(hvb:(Value.slice DA l.length dc).ownBlock≠some vb):
 Calls prog 228 #[.slice DA l.length dc,.int .i64 (i:Int),.slice (some ⟨vb,0,none⟩) 1 1] w λe w'=>FO l i x H (Value.slice DA l.length dc).ownBlock w e w':=by
 by_cases d:i=l.length
 .subst d;exact Er DA l dc x vb H w hm hH hown hv
 have c:i<l.length:=by omega
 obtain⟨g,c9,b⟩:=fV hown (by omega);injection b with h2 h3 h4;subst h2;subst h4;have j:vb≠g:=λh=>hvb (by rw[h];rfl);by_cases k:l.length+1<=dc
 .exact Is g l dc i x vb H w hm c k hH hown hv j
 have hc:=cH hown;have:dc=l.length:=by omega
 subst this;exact C6 g l i x vb H w hm c hH hown hv
theorem F9{H sz:Nat}{e:TypeId}{v:Value}{xs:List Value}(h:w.ownsRow H e sz v n xs):v.ownBlock≠some w.heap.size:=by
 rcases h.2 with⟨rfl,-⟩|⟨g,cap,cur,rfl,-,b,-⟩
 .intro h;cases h
 intro c;have a:g=w.heap.size:=by injection c
 subst a;simp at b
theorem zA(l:List Dw)(i:Nat)(x:Dw)(hi:i<l.length):sW (l.flatMap Dw.cells) (i*3) x.cells=(l.set i x).flatMap Dw.cells:=by have b:=cw Dw.cells 3 Dw.len l;have a:x.cells.length=3:=rfl;rw[lN _ _ _ (by rw[b,a];omega),List.set_eq_take_append_cons_drop,if_pos hi,kxk,kzx,iA Dw.cells 3 Dw.len,r9 Dw.cells 3 Dw.len,a];rw[show (i+1)*3=i*3+3 by omega]
theorem zB(A DA:Option Addr)(im:List Nat)(dw:List Dw)(lf:Int)(dn:Bool)(n c m dc a v:Nat)(w:World)(hn:im.length=n)(hm:dw.length=m)(hok:eY ⟨im,dw,lf,dn⟩=true)(ha:a<n)(_hv:v<18446744073709551616)(hm2:m<=1000000)(hi:RdW w w.heap.size A im)(hr:RdQ w w.heap.size DA dw):
 Calls prog 180 #[.agg #[.slice A n c,.slice DA m dc,.int .i64 lf,.bool dn],.int .i64 (a:Int),.int .u64 (v:Int)] w λe w'=>(∃u,e=.returned (.tuple #[u,.int .i64 0])/\lx w' w.heap.size (dvS ⟨im,dw,lf,dn⟩ (a:Int) v) u)/\Below w.heap.size w w':=by
 have R:=(bM _).1 hok;have hs:=(aa _).1 R.1;dsimp only at hs;have Kq : -1<=lf/\lf<=1000000:=⟨R.2.1,R.2.2.1⟩;have Kd:=R.2.2.2.2;dsimp only at Kd;have Kh:=hid (inc_of Kd);have X:=hid (λW (h:RdQ W W.heap.size DA dw)=>Gf A DA im dw lf dn n c m dc (a:Int) W hn hm (by omega) (by omega) h);rw[Bp hok (by omega) (by dsimp only;omega)] at X;have z:=hid (λW (h:RdW W W.heap.size A im) (h2:RdQ W W.heap.size DA dw)=>oo A DA im dw lf dn n c m dc W hn hm (by omega) (by omega) (by omega) Kq h h2);unfold lx at z;rw[(pq _).1,(pq _).2] at z;dsimp only at z;rw[hn,hm] at z;have HR:=hid hi;have HQ:=hid hr;obtain⟨W0,Lg,x0,x1,Ky,Lf⟩:=nq w A DA lf dn n c m dc;have X0:=hid x0;have X1:=hid x1;have Kz:=hid Ky;have q:=hid hn;have Kc:=hid hm;obtain⟨q0,q1,q2,q3,-,-,-,-,hg⟩:=x0.c4;have Lb:w.heap.size<=W0.heap.size:=by omega
 have Lc:w.heap.size+1<W0.heap.size:=by omega
 have Kp:w.heap.size+1≠w.heap.size:=by omega
 have hn3:n<=2048:=by omega
 clear hi hr x0 x1 Ky Lf hn hm R hs Kd hok;go_enter func180,ntmps180;go_wp2_with fail;clear Lg;refine (X.out W0 (HQ.out.up Kz.out Lb)).mono ?_;rintro e w1 ⟨rfl,G⟩;have x0:=X0.out.up G hg;have f:=hid (Kz.out.trans (G.mono Lb));have hz1:=G.size;obtain⟨p0,p1,p2,p3,-,-,-,-,o⟩:=x0.c4;have Y0:=hid x0;have Y1:=hid (X1.out.up G Lc);have b:w.heap.size+1<w1.heap.size:=by omega
 clear x0 G q0 q1 q2 q3;go_wp2_with fail;refine (z.out w1 (HR.out.up f.out f.out.size) (HQ.out.up f.out f.out.size)).mono ?_;rintro e w2 ⟨⟨_,rfl,I,J,y,s,rfl,Ke,Km,Kr⟩,E⟩;have Eq:=hid Km;have L:=hid Kr;have Z0:=hid (Y0.out.up E o);have Z1:=hid (Y1.out.up E b);have Kf:=hid (f.out.trans (E.mono f.out.size));have Li:=E.size;clear E Km Kr p0 p1 p2 p3;by_cases D:lf=0
 .subst D;have HV:Hid (dvS ⟨im,dw,0,dn⟩ (a:Int) v=⟨im,dw,0,true⟩):=hid (by unfold dvS dvD;rw[if_pos rfl]);rw[qx rfl,show decide ((0:Int)≠0)=false from rfl];unfold dvD;dsimp only;go_wp2_with (first
   | ((with_reducible refine ar 79 (.tmp 3) _ ?_);refine stD Z0.out ?_;intro K U d)
   | ((with_reducible refine aN 79 (.tmp 3) ?_);refine ldD U.out ?_)
   | ((with_reducible refine ar 79 (.tmp 6) _ ?_);refine stD (d.out.bx Z1.out Kp) ?_;intro w9 H j))
  refine kqo (v:=.tuple #[.agg #[.slice I n J,.slice y m s,.int .i64 0,.bool true],.int .i64 0]) (bg results180 _ H.out rfl rfl rfl) rfl ⟨⟨_,rfl,by
   rw[HV.out];exact⟨I,J,y,s,by rw[q.out,Kc.out],by rw[q.out];exact Ke,by rw[q.out];exact ao (ap (ap Eq.out d.out o) j.out b) f.out.size,by rw[Kc.out];exact ao (ap (ap L.out d.out o) j.out b) f.out.size⟩⟩,j.out.below (d.out.below Kf.out (kqa _)) (by omega)⟩
 have ed:decide (lf≠0)=true:=by rw[kqn];exact D
 have HV:Hid (dvS ⟨im,dw,lf,dn⟩ (a:Int) v=⟨im,stQ dw (a:Int) v,dec lf,dn⟩):=hid (by unfold dvS;rw[if_neg D]);have Kk:dvB ⟨im,dw,lf,dn⟩=⟨im,dw,dec lf,dn⟩:=by unfold dvB;rw[if_neg D]
 rw[ed,Kk];dsimp only;obtain⟨l2,Ku⟩:=xq (dec lf);rw[Ku] at HV |-;subst Kc;clear Ku Kk ed D Kq;go_wp2_with (first
  | (((with_reducible refine ar 79 (.tmp 3) _ ?_);refine stD Z0.out ?_;intro K U d);obtain⟨s0,s1,s2,s3,M,O,N,P,slt⟩:=U.out.c4)
  | ((with_reducible refine aN 79 (.tmp 3) ?_);refine ldD U.out ?_))
 have Lk:w.heap.size<K.heap.size:=U.out.lt;have Kt:w.heap.size+1<K.heap.size:=by have:=d.out.1;omega
 have YD:=hid (Bx.new K 92 #[.int .i64 (a:Int),.int .u64 (v:Int),.bool false]);have V0:=hid (U.out.alloc (.cells #[.int .i64 (a:Int),.int .u64 (v:Int),.bool false] 92));have V1:=hid ((d.out.bx Z1.out Kp).alloc (.cells #[.int .i64 (a:Int),.int .u64 (v:Int),.bool false] 92));have VO:=hid ((ap Eq.out d.out o).alloc (.cells #[.int .i64 (a:Int),.int .u64 (v:Int),.bool false] 92));have VQ:=hid ((ap L.out d.out o).alloc (.cells #[.int .i64 (a:Int),.int .u64 (v:Int),.bool false] 92));have Ki:=hid (F9 (ap L.out d.out o));have VB:=hid ((d.out.below Kf.out (kqa _)).alloc (by omega) (.cells #[.int .i64 (a:Int),.int .u64 (v:Int),.bool false] 92));have T:(K.alloc (.cells #[.int .i64 (a:Int),.int .u64 (v:Int),.bool false] 92)).heap.size=K.heap.size+1:=kqm _ _;have Kw:w1.heap.size<=K.heap.size:=by have:=d.out.1;omega
 obtain⟨b3,Kx⟩:=xq K.heap.size;obtain⟨w4,Kv⟩:∃w4,K.alloc (.cells #[.int .i64 (a:Int),.int .u64 (v:Int),.bool false] 92)=w4:=⟨_,rfl⟩;rw[Kx] at YD Ki T Lk Kt Kw |-;rw[Kv] at YD V0 V1 VO VQ VB T |-;clear Kv Eq L Kf Z0 Z1 d Li s0 s1 s2 s3 M O N P slt U Kx;refine (E3 I y dw l2 dn n J dw.length s (a:Int) w4 rfl hm2 Kh.out (Rd.of_own VQ.out)).mono ?_;rintro e F ⟨⟨i,rfl,Kg⟩,r⟩;have X0:=hid (V0.out.up r (by omega));have X1:=hid (V1.out.up r (by omega));have XD:=hid (YD.out.up r (by omega));have XO:=hid (ai VO.out r (kqa _));have Y:=hid (ai VQ.out r (kqa _));have XB:=hid (VB.out.trans (r.mono VB.out.size));have hz5:=r.size;have Ld:i<=dw.length:=Kg.1;have x:=hid (stQ_at (v:=v) Kg);clear r V0 V1 YD VO VQ VB Kg HR HQ X z;obtain⟨s0,s1,s2,s3,M,O,N,P,slt⟩:=X0.out.c4;cases Z:uY dw (a:Int) i
 .rw[Z] at x;have Ka:=hid (show stQ dw (a:Int) v=dw.take i++⟨(a:Int),v,false⟩::dw.drop i by rw[x.out];simp);clear x Z;go_wp2_with (first
   | ((with_reducible refine aN 79 (.tmp 3) ?_);refine ldD X0.out ?_)
   | ((with_reducible refine aN 92 (.tmp 10) ?_);refine kxh rfl _ _ rfl b3 (by rfl) 92 _ (0,0) _ XD.out underlying92 (by rfl) (by kernel_rfl) ?_))
  have Kl:(F.alloc (.cells #[.int .i64 (a:Int),.int .u64 (v:Int),.bool false] 92)).heap.size=F.heap.size+1:=kqm _ _;have Z0:=hid (X0.out.alloc (.cells #[.int .i64 (a:Int),.int .u64 (v:Int),.bool false] 92));have Z1:=hid (X1.out.alloc (.cells #[.int .i64 (a:Int),.int .u64 (v:Int),.bool false] 92));have ZO:=hid (XO.out.alloc (.cells #[.int .i64 (a:Int),.int .u64 (v:Int),.bool false] 92));have ZQ:=hid (Y.out.alloc (.cells #[.int .i64 (a:Int),.int .u64 (v:Int),.bool false] 92));have ZB:=hid (XB.out.alloc (by omega) (.cells #[.int .i64 (a:Int),.int .u64 (v:Int),.bool false] 92));have ZN:=hid (Bx.new F 92 #[.int .i64 (a:Int),.int .u64 (v:Int),.bool false]);have ZL:=hid (F9 Y.out);obtain⟨w6,C⟩:∃w6,F.alloc (.cells #[.int .i64 (a:Int),.int .u64 (v:Int),.bool false] 92)=w6:=⟨_,rfl⟩;rw[C] at Z0 Z1 ZO ZQ ZB ZN Kl |-;clear C s0 s1 s2 s3 M O N P;refine (ins_c y dw s i ⟨(a:Int),v,false⟩ F.heap.size w1.heap.size w6 hm2 Ld (by omega) ZQ.out ZN.out ZL.out).mono ?_;rintro e w7 ⟨⟨S,Q,rfl,V⟩,l⟩;have t:∀k,k<w1.heap.size->some k≠(Value.slice y dw.length s).ownBlock:=λk R=>bH ZQ.out R;have Ll:=l.size;have y0:Bx w7 w.heap.size _ _:=(l.block w.heap.size (by omega) (by first|exact t _ o|exact (t _ o).symm)).trans Z0.out
  have y1:Bx w7 (w.heap.size+1) _ _:=(l.block (w.heap.size+1) (by omega) (by first|exact t _ b|exact (t _ b).symm)).trans Z1.out;have yb:Below w.heap.size w w7:=ZB.out.trans ⟨l.os,l.tape,l.output,l.size,λk R=>l.block k (by omega) (by first|exact t _ (by omega) | exact (t _ (by omega)).symm)⟩;have yo:=bC ZO.out l (fO ZO.out ZQ.out (by decide));have Y0:=hid (show Bx (w7.setCell ⟨w.heap.size,1,none⟩ (.slice S (dw.length+1) Q)) w.heap.size 79 #[.slice I n J,.slice S (dw.length+1) Q,.int .i64 l2,.bool dn] from y0.set_ 1 _);have Y1:=hid (y1.far (p:=⟨w.heap.size,1,none⟩) (show w.heap.size+1≠w.heap.size by omega) (.slice S (dw.length+1) Q));have YO:=hid (av yo (p:=⟨w.heap.size,1,none⟩) (bH yo o).symm (.slice S (dw.length+1) Q));have YQ:=hid (av V (p:=⟨w.heap.size,1,none⟩) (bH V o).symm (.slice S (dw.length+1) Q));have YB:=hid (yb.setCell (p:=⟨w.heap.size,1,none⟩) (kqa _) (.slice S (dw.length+1) Q));obtain⟨s0,s1,s2,s3,M,O,N,P,slt⟩:=y0.c4;clear l V y0 y1 yb yo t Ll;go_wp2_with (first
   | ((with_reducible refine aN 79 (.tmp 3) ?_);refine ldD Y0.out ?_)
   | ((with_reducible refine ar 79 (.tmp 6) _ ?_);refine stD Y1.out ?_;intro w9 H j))
  refine kqo (v:=.tuple #[.agg #[.slice I n J,.slice S (dw.length+1) Q,.int .i64 l2,.bool dn],.int .i64 0]) (bg results180 _ H.out rfl rfl rfl) rfl ⟨⟨_,rfl,by
   have Ko:(dw.take i++(⟨(a:Int),v,false⟩:Dw)::dw.drop i).length=dw.length+1:=by rw[kqu,kq0,kq3,kzv];omega
   rw[HV.out,Ka.out];unfold lx;dsimp only;rw[Ko];exact⟨I,J,S,Q,by rw[q.out],by rw[q.out];exact Ke,by rw[q.out];exact ao (ap YO.out j.out b) f.out.size,ao (ap YQ.out j.out b) f.out.size⟩⟩,j.out.below YB.out (by omega)⟩
 rw[Z] at x;have Lj:i<dw.length:=by
  rcases kq6 i dw.length with h|h
  .exact h
  unfold uY at Z;rw[kzi h] at Z;cases Z
 have Ka:=hid (show stQ dw (a:Int) v=dw.set i ⟨(a:Int),v,false⟩ by rw[x.out,if_pos rfl]);clear x Z;obtain⟨g,c9,La⟩:=fV Y.out (by omega);obtain⟨rfl,-,rfl⟩:y=some ⟨g,0,none⟩/\dw.length=dw.length/\s=c9:=by injection La with h1 h2 h3;exact⟨h1,h2,h3⟩
 have hgb:w1.heap.size<=g:=gG Y.out;have hki:(i:Int)<(dw.length:Int):=by omega
 have hk0:(0:Int)<=(i:Int):=by omega
 have Ks:F.there g (i*3) (#[.int .i64 (a:Int),.int .u64 (v:Int),.bool false]:Array Value).size:=jk Y.out (i*3) 3 (by omega);have Kj:(prog.info? 92).map (·.size)=some (#[.int .i64 (a:Int),.int .u64 (v:Int),.bool false]:Array Value).size:=by kernel_rfl
 have Kn:(#[.int .i64 (a:Int),.int .u64 (v:Int),.bool false]:Array Value).all (·.oneCell')=true:=by simp[Value.oneCell']
 have hx:=dr (Dw.cells ⟨(a:Int),v,false⟩) (i*3) F _ Y.out;rw[zA dw i _ Lj] at hx;have YQ:=hid hx;have YA:Hid (iD F (F.setCells g (i*3) (Dw.cells ⟨(a:Int),v,false⟩)) g):=hid ⟨cY _ _ _,λg' Le=>dD Le _ _ _,λB hB=>a9 hB _ (kqk _ _)⟩;have YO:=hid (bC XO.out YA.out.grown (show (Value.slice I n J).ownBlock=none\/(Value.slice I n J).ownBlock≠some g from fO XO.out Y.out (by decide)));have Y0:=hid (YA.out.bx X0.out (show w.heap.size≠g by omega));have Y1:=hid (YA.out.bx X1.out (show w.heap.size+1≠g by omega));have YB:=hid (YA.out.below XB.out (show w.heap.size<=g by omega));obtain⟨cs,Kb⟩:∃cs:Array Value,#[.int .i64 (a:Int),.int .u64 (v:Int),.bool false]=cs:=⟨_,rfl⟩;obtain⟨w6,C⟩:∃w6,F.setCells g (i*3) (Dw.cells ⟨(a:Int),v,false⟩)=w6:=⟨_,rfl⟩;have Lh:F.setCells g (i*3) cs.toList=w6:=by rw[<-Kb];exact C
 rw[C] at YQ YA YO Y0 Y1 YB;rw[Kb] at Ks Kj Kn;clear C hx La Ki;go_wp2_with (first
  | ((with_reducible refine aN 79 (.tmp 3) ?_);refine ldD X0.out ?_)
  | ((with_reducible refine aN 79 (.tmp 3) ?_);refine ldD Y0.out ?_)
  | ((with_reducible refine aN 92 (.tmp 10) ?_);refine kxh rfl _ _ rfl b3 (by rfl) 92 _ (0,0) _ XD.out underlying92 (by rfl) (by kernel_rfl) ?_)
  | ((with_reducible refine ar 92 (.tmp 42) _ ?_);refine kjt rfl _ _ _ rfl g (i*3) cs (by rfl) (by rw[<-Kb];rfl) Ks Kj Kn ?_;rw[Lh])
  | ((with_reducible refine ar 79 (.tmp 6) _ ?_);refine stD Y1.out ?_;intro w9 H j))
 refine kqo (v:=.tuple #[.agg #[.slice I n J,.slice (some ⟨g,0,none⟩) dw.length s,.int .i64 l2,.bool dn],.int .i64 0]) (bg results180 _ H.out rfl rfl rfl) rfl ⟨⟨_,rfl,by
  rw[HV.out,Ka.out];exact⟨I,J,some ⟨g,0,none⟩,s,by rw[kq4,q.out],by rw[q.out];exact Ke,by rw[q.out];exact ao (ap YO.out j.out b) f.out.size,by rw[kq4];exact ao (ap YQ.out j.out b) f.out.size⟩⟩,j.out.below YB.out (by omega)⟩
end Go.Proofs.YtpcajamacpbjcaaGreat
