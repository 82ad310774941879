/- Putting entries into a device: what the closure of replay.Put does. -/
import Derived.Test.YtpcajamacpbjcaaGreatZGC
import Derived.Test.YtpcajamacpbjcaaGreatZGD
import Derived.Test.YtpcajamacpbjcaaGreatZGF
import Derived.Test.YtpcajamacpbjcaaGreatZGE
set_option maxHeartbeats 16000000
set_option maxRecDepth 100000
set_option linter.all false
namespace Go.Proofs.YtpcajamacpbjcaaGreat
open Lib (hid)
open Go.RowKit Go.Lib
variable {d:Dv}{l:List En}{ad:List Int}{a b n:Nat}{P:Program}{w w':World}
open Go.Proofs.Tryz
def Two (w w':World) (a b:Nat):Prop:=∃w1,w.grownBy w1 (some a)/\w1.grownBy w' (some b)
theorem Two.own{H sz:Nat}{e:TypeId}{v:Value}{xs:List Value}(h:Two w w' a b)(ho:w.ownsRow H e sz v n xs)(ha:a<H)(hb:b<H):w'.ownsRow H e sz v n xs:=by obtain⟨w1,f,d⟩:=h;have c:=aN ho f (.inr (bQ ho ha).symm);exact aN c d (.inr (bQ c hb).symm)
theorem Two.below{w0:World}{B:Nat}(h:Two w w' a b)(hb:Below B w0 w)(hs:B<=w.heap.size)(ha:B<=a)(hb2:B<=b):Below B w0 w':=by obtain⟨f,d,e⟩:=h;have g:Below B w0 f:=hb.grown d hs (λj c=>by cases c;exact ha);exact g.grown e (kz7 hs d.size) (λj c=>by cases c;exact hb2)
theorem Two.bx{g:Nat}{t:TypeId}{cs:Array Value}(h:Two w w' a b)(hb:Bx w g t cs)(h1:g≠a)(h2:g≠b):Bx w' g t cs:=by obtain⟨w1,d,c⟩:=h;exact (hb.grown d λe=>h1 (by injection e)).grown c λe=>h2 (by injection e)
theorem sM{op:Oper}{a:Act}{K:Act->World->Prop}{Q:Exit->Act->World->Prop}(ty:TypeId)(x y:Operand)(ho:op.op=.store ty x y)(g:Nat)(t:TypeId)(cs0 cs:Array Value)(hx:a.eval x=.pointer (some ⟨g,0,none⟩))(hy:a.eval y=.agg cs)(hb:Bx w g t cs0)(hs:cs.size=cs0.size)(hi:(P.info? ty).map (·.size)=some cs.size)(h1:cs.all (·.oneCell')=true)(h:∀W',Bx W' g t cs->iE w W' g->K (a.put op.dst undef) W'):op.wp P a w K Q:=by
 have c:w.there g 0 cs.size:=by rw[hs];exact kj hb
 exact wp_store_mid ty x y ho g 0 cs hx hy c hi h1 (h _ (fX hb hs) ⟨cY _ _ _,λg' b=>dN b _ _ _,λB d=>bh d _ (kqk _ _)⟩)
theorem ri{o:Oper}{a:Act}(ty:TypeId)(x:Operand)(ho:o.op=.load ty x)(g:Nat)(hx:a.eval x=.pointer (some ⟨g,0,none⟩))(t:TypeId)(cs:Array Value)(d:TypeDesc)(hb:Bx w g t cs)(hu:P.underlying ty=some d)(hd:(match d with | .struct _ | .array _ _=>true | _=>false)=true)(hi:(P.info? ty).map (·.size)=some cs.size):(execOp a.eval o).run P w=.ok (.value (.agg cs)) w:=by have b:=run_loadVar_row w g t ty cs (0,0) d hb hu hd hi;unfold execOp;simp only[ho,hx,Instr.loadAt,Instr.sureAddr,Sem.run_bind,Sem.run_pure,Result.andThen_ok,b]
def Ib (B H:Nat) (w:World) (A:Option Addr) (n c:Nat) (DA:Option Addr) (m dc:Nat) (im:List Nat) (dw:List Dw):Prop:=
 (RdW w B A im/\RdQ w B DA dw)\/(w.ownsRow H 53 1 (.slice A n c) n (im.flatMap ae)/\w.ownsRow H 92 3 (.slice DA m dc) m (dw.flatMap Dw.cells))
section
variable {B H:Nat} {w w':World} {A DA:Option Addr} {n c m dc:Nat} {im:List Nat} {dw:List Dw}
theorem Ib.rd(h:Ib B H w A n c DA m dc im dw)(hB:B<=w.heap.size):RdW w w.heap.size A im/\RdQ w w.heap.size DA dw:=by
 rcases h with h|h
 .exact ⟨Rd.more h.1 hB,Rd.more h.2 hB⟩
 exact⟨Rd.of_own h.1,Rd.of_own h.2⟩
theorem Ib.up(h:Ib B H w A n c DA m dc im dw)(hb:Below w.heap.size w w')(hB:B<=w.heap.size):Ib B H w' A n c DA m dc im dw:=by
 rcases h with h|h
 .exact .inl ⟨Rd.below h.1 (hb.mono hB),Rd.below h.2 (hb.mono hB)⟩
 exact .inr ⟨aa h.1 hb (kqa _),aa h.2 hb (kqa _)⟩
end
theorem Bo(gE gD:Nat)(old:Array Value)(A DA:Option Addr)(lf:Int)(dn:Bool)(n c m dc:Nat)(w:World)(hs:old.size=4)(he:Bx w gE 27 #[.int .i64 0])(hd:Bx w gD 79 old)(hne:gE≠gD):
 Calls prog 179 #[.agg #[.slice A n c,.slice DA m dc,.int .i64 lf,.bool dn],.int .i64 0,.pointer (some ⟨gE,0,none⟩),.pointer (some ⟨gD,0,none⟩)] w λe w'=>e=.returned (.tuple #[])/\Bx w' gE 27 #[.int .i64 0]/\Bx w' gD 79 #[.slice A n c,.slice DA m dc,.int .i64 lf,.bool dn]/\Two w w' gD gE:=by
 have f:=hid (he.alloc (.cells #[.slice A n c,.slice DA m dc,.int .i64 lf,.bool dn] 79));have l:=hid (hd.alloc (.cells #[.slice A n c,.slice DA m dc,.int .i64 lf,.bool dn] 79));have o:=hid (Bx.new w 79 #[.slice A n c,.slice DA m dc,.int .i64 lf,.bool dn]);have j:=hid (show w.grownBy (w.alloc (.cells #[.slice A n c,.slice DA m dc,.int .i64 lf,.bool dn] 79)) (some gD) from ew ((kqk w.heap.size w).alloc (kqa _) _));obtain⟨r,i⟩:=xq (w.alloc (.cells #[.slice A n c,.slice DA m dc,.int .i64 lf,.bool dn] 79));rw[i] at f l o j;have hgd:gD<w.heap.size:=hd.lt;have hge:gE<w.heap.size:=he.lt;have hnd:w.heap.size≠gD:=by omega
 have hne2:w.heap.size≠gE:=by omega
 have b:gD≠gE:=λh=>hne h.symm;have s:=hid hs;obtain⟨e0,ef,-⟩:=f.out.c1;clear he hd hs;go_enter func179,ntmps179;go_wp2_with (first
  | ((with_reducible refine aQ 79 (.tmp 4) ?_);refine ldD o.out ?_)
  | (((with_reducible refine ar 79 (.tmp 3) _ ?_);refine ao rfl _ _ _ rfl gD 79 old #[.slice A n c,.slice DA m dc,.int .i64 lf,.bool dn] (by rfl) (by rfl) l.out s.out.symm kB (by simp[Value.oneCell']) ?_;intro g a d;have t:=hid a;have k:=hid d;clear a d);have q:=hid (k.out.bx f.out hne);obtain⟨u0,uf,-⟩:=q.out.c1))
 go_end0;refine⟨rfl,q.out.set_ 0 (.int .i64 0),t.out.far (p:=⟨gE,0,none⟩) b _,g,og j.out k.out.grown,eM (vs:=[.int .i64 0]) (ew (kqk g.heap.size g))⟩
open Go.RowKit
theorem El :∀ {l:List Dw} {b:Int},iM n l b=true -> -1<=b->(l.length:Int)+b<(n:Int)\/l=[]:=by
 intro l
 induction l with
 | nil=>intro b _ _;exact .inr rfl
 | cons e l ih =>
  intro b h hb;simp only[iM,kqu,kzd] at h;rcases ih h.2.2 (by omega) with a|a
  .left;rw[kq2];omega
  left;subst a;simp only[kq2,kxf];omega
theorem qd(h:ff d=true):d.dw.length<=2048/\256<=d.im.length/\d.im.length<=2048:=by
 have b:=(bP d).1 h;have hs:=(ab _).1 b.1;refine⟨?_,by omega,by omega⟩;rcases El b.2.2.2.2 (by omega) with a|a
 .omega
 rw[a];simp
theorem CF{k:Nat}(hk:k<l.length):o8 d (l.take (k+1))=dvS (o8 d (l.take k)) l[k].a l[k].v:=by unfold o8;rw[kqp hk,List.foldl_append];rfl
theorem yT{cs:Array Value}(h:mu cs ad n):cs.all (·.oneCell')=true:=by rw[kk8];intro i b;have a:=h.2 i (by have:=h.1;omega);rw[kjl b] at a;injection a with a;rw[a];rfl
theorem JP:(prog.info? 156).map (·.size)=some 256:=by kernel_rfl
theorem Ks{x:Int}:∀ {n:Nat},aI ad x n=true->∃j,j<n/\(ad[j]?.getD 0)/8=x/8:=by
 intro n
 induction n with
 | zero=>intro h;cases h
 | succ n ih =>
  intro h;unfold aI at h;rw[kx1] at h;rcases h with h|h
  .obtain ⟨j,h1,a⟩:=ih h;exact⟨j,by omega,a⟩
  exact⟨n,by omega,by rwa [kqx] at h⟩
structure RpSt (w:World) (gE n:Nat) (d:Dv) (A:Option Addr) (c:Nat) (DA:Option Addr) (dc:Nat) (wr:World):Prop where
 be:Bx wr gE 27 #[.int .i64 0]
 bd:Bx wr w.heap.size 79 #[.slice A n c,.slice DA d.dw.length dc,.int .i64 d.left,.bool d.down]
 br:Bx wr (w.heap.size+1) 79 #[.slice none 0 0,.slice none 0 0,.int .i64 0,.bool false]
 at_:Ib w.heap.size (gE+1) wr A n c DA d.dw.length dc d.im d.dw
 len:d.im.length=n
 cap:n<=c
 ok:ff d=true
 below:Below w.heap.size w wr
section
variable {w wr wr':World} {gE n c dc:Nat} {d:Dv} {A DA:Option Addr}
theorem RpSt.up(h:RpSt w gE n d A c DA dc wr)(hb:Below wr.heap.size wr wr'):RpSt w gE n d A c DA dc wr':=
 ⟨h.be.up hb h.be.lt,h.bd.up hb h.bd.lt,h.br.up hb h.br.lt,h.at_.up hb h.below.size,h.len,h.cap,h.ok,h.below.trans (hb.mono h.below.size)⟩
theorem RpSt.alloc(h:RpSt w gE n d A c DA dc wr)(o:Obj):RpSt w gE n d A c DA dc (wr.alloc o):=h.up ((kqk _ _).alloc (kqa _) o)
theorem RpSt.do_(h:RpSt w gE n d A c DA dc wr){w2 w3:World}(hb:Below wr.heap.size wr w2)(hE:w.heap.size+1<gE){d2:Dv}{A2 DA2:Option Addr}{c2 dc2:Nat}(h2:w2.ownsRow wr.heap.size 53 1 (.slice A2 n c2) n (d2.im.flatMap ae))(h3:w2.ownsRow wr.heap.size 92 3 (.slice DA2 d2.dw.length dc2) d2.dw.length (d2.dw.flatMap Dw.cells))(hc:n<=c2)(hl:d2.im.length=n)(hok:ff d2=true)(he:Bx w3 gE 27 #[.int .i64 0])(hd:Bx w3 w.heap.size 79 #[.slice A2 n c2,.slice DA2 d2.dw.length dc2,.int .i64 d2.left,.bool d2.down])(ht:Two w2 w3 w.heap.size gE):RpSt w gE n d2 A2 c2 DA2 dc2 w3:=by have a:=h.up hb;have hg:=h.be.lt;refine⟨he,hd,ht.bx a.br (by omega) (by omega),.inr ⟨ht.own (am h2 (show gE+1<=wr.heap.size by omega)) (by omega) (by omega),ht.own (am h3 (show gE+1<=wr.heap.size by omega)) (by omega) (by omega)⟩,hl,hc,hok,ht.below a.below a.below.size (kqa _) (by omega)⟩
end
theorem IW(A DA B:Option Addr)(im:List Nat)(dw:List Dw)(lf:Int)(dn:Bool)(n c m dc:Nat)(l:List En)(ln lc:Nat)(w:World)(hn:im.length=n)(hm:dw.length=m)(hc:n<=c)(hok:ff ⟨im,dw,lf,dn⟩=true)(hln:l.length=ln)(h64:ln<=64)(hin:mU n l)(hv:∀e∈l,e.v<18446744073709551616)(hi:RdW w w.heap.size A im)(hr:RdQ w w.heap.size DA dw)(he:RdE w w.heap.size B l):
 Calls prog 128 #[.agg #[.slice A n c,.slice DA m dc,.int .i64 lf,.bool dn],.slice B ln lc] w λe w'=>(∃u,e=.returned (.tuple #[u,.int .i64 0])/\lX w' w.heap.size (rpP ⟨im,dw,lf,dn⟩ l) u)/\Below w.heap.size w w':=by
 have hb:=qd hok;dsimp only at hb;rw[hn,hm] at hb;obtain⟨hb1,hb2,hb3⟩:=hb;subst hln;have Lm:=hid (λW (h:RdQ W W.heap.size DA dw)=>lj A DA im dw lf dn n c m dc W hn hm (by omega) (by omega) h);rw[kq hok] at Lm;obtain⟨W0,Ms,x0,x1,Ls,Md⟩:=nU w A DA lf dn n c m dc;have X0:=hid x0;have X1:=hid x1;have Lt:=hid Ls;have HI:=hid hi;have HQ:=hid hr;have HE:=hid he;have HN:=hid hn;have HM:=hid hm;have Lx:=hid hok;have Lg:=hid hin;have HV:=hid hv;have Lq:w.heap.size<=W0.heap.size:=by omega
 have Mf:w.heap.size<W0.heap.size:=by omega
 have Mn:w.heap.size+1<W0.heap.size:=by omega
 have hgt:decide ((64:Int)<(l.length:Int))=false:=by rw[kqh];omega
 clear hi hr he x0 x1 Ls Md hn hm hok hin hv;go_enter func128,ntmps128;go_wp2_with (first
  | ((with_reducible refine aQ 79 (.tmp 2) ?_);refine ldD X0.out ?_))
 clear Ms;refine (Lm.out W0 (HQ.out.up Lt.out Lq)).mono ?_;rintro e w1 ⟨rfl,La⟩;have Mp:=La.size;have Ll:w.heap.size+1<w1.heap.size:=by omega
 have ST0:=hid (show RpSt w w1.heap.size n ⟨im,dw,lf,dn⟩ A c DA dc (w1.alloc (.cells #[.int .i64 0] 27)) from by
  have ha:Below w1.heap.size w1 (w1.alloc (.cells #[.int .i64 0] 27)):=(kqk _ _).alloc (kqa _) _;have Lj:=Lt.out.trans ((La.trans (ha.mono Mp)).mono Lq);refine⟨Bx.new _ _ _,?_,(X1.out.up La Mn).alloc _,.inl ⟨HI.out.below Lj,HQ.out.below Lj⟩,HN.out,hc,Lx.out,Lj⟩;dsimp only;rw[HM.out];exact (X0.out.up La Mf).alloc _)
 clear La Lm HI HQ X0 X1;go_wp2_with fail;go_loopw [26] (λi wr=>∃k:Nat,k<=l.length/\i=.int .i64 k/\Hid (RpSt w w1.heap.size n ⟨im,dw,lf,dn⟩ A c DA dc wr)) (λi _=>l.length-(RowKit.intOf i).toNat)
 case atStart=>exact⟨0,kqz _,rfl,ST0⟩
 obtain⟨k,hk,rfl,HS⟩:=hrel;by_cases H:k<l.length
 .obtain ⟨b,off,rfl,hb,h0,h1⟩:=RdE.at_ (show RdE wr w.heap.size B l from HE.out.below HS.out.below) H;have hr:=Lg.out _ (kqn H);obtain⟨x,hx⟩:=xq (l[k]);rw[hx] at h0 h1 hr;obtain⟨xa,xv⟩:=x;dsimp only at h0 h1 hr;have hd1:decide (xa<0)=false:=by rw[kqh];omega
  have Mc:decide ((n:Int)<=xa)=false:=by rw[kqh];omega
  obtain⟨d0,-,-,-,-,-,-,-,hgd⟩:=HS.out.bd.c4;have ik1:(0:Int)<=(k:Int):=by omega
  have ik2:(k:Int)<(l.length:Int):=by omega
  have Ky:=hid (HS.out.alloc (.cells #[.int .i64 xa,.int .u64 (xv:Int)] 89));clear hx hr;go_wp2;go_roundw
  case rel=>exact⟨k+1,by omega,by go_num,Ky⟩
  case measure=>simp[RowKit.intOf];omega
 obtain rfl:k=l.length:=by omega
 go_wp2_with fail;go_loopw [46] (λi wr=>∃(k:Nat) (d2:Dv) (A2 D:Option Addr) (c2 V:Nat),k<=l.length/\i=.int .i64 k/\Hid (o8 ⟨im,dw,lf,dn⟩ (l.take k)=d2)/\Hid (RpSt w w1.heap.size n d2 A2 c2 D V wr)) (λi _=>l.length-(RowKit.intOf i).toNat)
 case atStart=>exact⟨0,_,_,_,_,_,kqz _,rfl,hid rfl,HS⟩
 obtain⟨k,d2,A2,D,c2,V,hk,rfl,z,f⟩:=hrel;by_cases H:k<l.length
 .obtain ⟨b,off,rfl,hb,h0,h1⟩:=RdE.at_ (show RdE wr w.heap.size B l from HE.out.below f.out.below) H;have hr:=Lg.out _ (kqn H);have Li:=HV.out _ (kqn H);have Lc:=hid (CF (d:=⟨im,dw,lf,dn⟩) H);rw[z.out] at Lc;obtain⟨x,hx⟩:=xq (l[k]);rw[hx] at h0 h1 hr Li Lc;obtain⟨xa,xv⟩:=x;dsimp only at h0 h1 hr Li Lc;obtain⟨a,rfl⟩:=kq1 hr.1;have Ml:a<n:=by omega
  obtain⟨r,g,t,y⟩:=d2;have ik1:(0:Int)<=(k:Int):=by omega
  have ik2:(k:Int)<(l.length:Int):=by omega
  have Kw:=hid (f.out.alloc (.cells #[.int .i64 (a:Int),.int .u64 (xv:Int)] 89));have HWN:Hid (∃W,W=wr.alloc (.cells #[.int .i64 (a:Int),.int .u64 (xv:Int)] 89)):=hid ⟨_,rfl⟩;have Le:=(qd f.out.ok).1;dsimp only at Le;have p:=hid (λW (h:RdW W W.heap.size A2 r) (h2:RdQ W W.heap.size D g)=>z7 A2 D r g t y n c2 g.length V a xv W f.out.len rfl f.out.ok Ml Li (by omega) h h2);unfold lX at p;have s:=hid (vF (a:=(a:Int)) (v:=xv) f.out.ok (by omega) (by rw[f.out.len];omega));have C:=hid ((congrArg List.length (sb ⟨r,g,t,y⟩ (a:Int) xv)).trans f.out.len);obtain⟨d3,o⟩:∃d3,dvS ⟨r,g,t,y⟩ (a:Int) xv=d3:=⟨_,rfl⟩;rw[o] at p s C Lc;rw[C.out] at p;have hd:=Kw.out.bd;dsimp only at hd;have F:=hid hd;have Q:=hid (Kw.out.at_.rd Kw.out.below.size);clear hx hr Li o hd z f;go_wp2_with (first
   | ((with_reducible refine aQ 79 (.tmp 2) ?_);refine ldD F.out ?_))
  refine (p.out _ Q.out.1 Q.out.2).mono ?_;rintro e w2 ⟨⟨_,rfl,A3,c3,I,G,rfl,Kx,U,O⟩,q⟩;obtain⟨im3,J,M,L⟩:=d3;have Eq:=hid U;have Kz:=hid O;have Ld:=hid q;have Z:=hid (F.out.up q F.out.lt);have R:=hid (Kw.out.be.up q Kw.out.be.lt);have P:=hid (Bo w1.heap.size w.heap.size _ A3 I M L n c3 J.length G w2 rfl R.out Z.out (by omega));clear U O q;dsimp only at P |-;go_wp2_with fail;refine P.out.mono ?_;rintro e w3 ⟨rfl,T,o,E⟩;have Y:=hid (Kw.out.do_ Ld.out Ll Eq.out Kz.out Kx C.out s.out T o E);clear T o E;go_wp2;go_roundw
  case rel=>exact⟨k+1,_,_,_,_,_,by omega,by go_num,Lc,Y⟩
  case measure=>simp[RowKit.intOf];omega
 obtain rfl:k=l.length:=by omega
 rw[kzf] at z;have Lz:=hid (λW (h:RdE W W.heap.size B l)=>Ju B l lc l.length W rfl (by omega) h (λk hk=>by rw[d7 l k hk];have:=Lg.out _ (kqn hk);omega));have Mh:=wm;go_wp2_with fail;refine (Lz.out _ (HE.out.up f.out.below f.out.below.size)).mono ?_;rintro e w4 ⟨⟨cs,rfl,Mb⟩,Lw⟩;have Lf:=hid Mb;have Lk:=hid (f.out.up Lw);have L0:=hid (Bx.new w4 156 kI);obtain⟨dS,Lo⟩:∃dS,o8 ⟨im,dw,lf,dn⟩ l=dS:=⟨_,rfl⟩;rw[Lo] at z;have Mr:=hid Lo;have Mc:=z.out;subst Mc;clear Mb Lw Lz Lo z;go_wp2_with (((with_reducible refine ar 156 (.tmp 12) _ ?_);refine ao rfl _ _ _ rfl w4.heap.size 156 kI cs (by rfl) (by rfl) L0.out (by rw[Lf.out.1];rfl) (by rw[Lf.out.1];exact JP) (yT Lf.out) ?_;intro w5 Lv Ly;have L5:=hid Lv;have Mm:=hid (Lk.out.up (Ly.below ((kqk w4.heap.size w4).alloc (kqa _) (.cells kI 156)) (kqa _)));clear Lv Ly));have hgL:w1.heap.size<w4.heap.size:=Lk.out.be.lt;clear Mh L0 Lk f;go_loopw [63] (λi wr=>∃(k:Nat) (d2:Dv) (A2 D:Option Addr) (c2 V:Nat),k<=256/\i=.int .i64 k/\Hid (lK (av l) dS k=d2)/\Hid (RpSt w w1.heap.size n d2 A2 c2 D V wr)/\Hid (Bx wr w4.heap.size 156 cs)) (λi _=>256-(RowKit.intOf i).toNat)
 case atStart=>exact⟨0,_,_,_,_,_,kqz _,rfl,hid rfl,Mm,L5⟩
 obtain⟨k,d2,A2,D,c2,V,hk,rfl,z,f,HL⟩:=hrel;have ik1:(0:Int)<=(k:Int):=by omega
 by_cases H:k<256
 .have ik2:(k:Int)<256:=by omega
  have N:=HL.out.cell k;rw[Lf.out.2 k H] at N;cases hs:aI (av l) (8*(k:Int)) l.length
  .have Ky:Hid (lK (av l) dS (k+1)=d2):=hid (by unfold lK;rw[aU,hs,if_neg (by simp)];exact z.out);rw[hs] at N;clear hs;go_wp2;go_roundw
   case rel=>exact⟨k+1,_,_,_,_,_,by omega,by go_num,Ky,f,HL⟩
   case measure=>simp[RowKit.intOf];omega
  have Mq:8*k<n:=by obtain⟨j,hj,ej⟩:=Ks hs;rw[d7 l j hj] at ej;have:=Lg.out _ (kqn hj);have h8:=(ab _).1 ((bP _).1 Lx.out).1;dsimp only at h8;rw[HN.out] at h8;omega
  have Ky:Hid (lK (av l) dS (k+1)=dvF d2 (8*(k:Int))):=hid (by unfold lK;rw[aU,hs,if_pos rfl,z.out]);rw[hs] at N;obtain⟨r,g,t,y⟩:=d2;have Le:=(qd f.out.ok).1;dsimp only at Le;have e8:((8*k:Nat):Int)=8*(k:Int):=by omega
  have hw8:IntKind.i64.wrap (8*(k:Int))=8*(k:Int):=kqt _ (by omega);have p:=hid (λW (h:RdW W W.heap.size A2 r) (h2:RdQ W W.heap.size D g)=>DU A2 D r g t y n c2 g.length V (8*k) W f.out.len rfl f.out.ok Mq (by omega) h h2);unfold lX at p;rw[e8] at p;have s:=hid (Hj (a:=8*(k:Int)) f.out.ok);have C:=hid ((congrArg List.length (GQ ⟨r,g,t,y⟩ (8*(k:Int)))).trans f.out.len);obtain⟨d3,o⟩:∃d3,dvF ⟨r,g,t,y⟩ (8*(k:Int))=d3:=⟨_,rfl⟩;rw[o] at p s C Ky;rw[C.out] at p;have hd:=f.out.bd;dsimp only at hd;have F:=hid hd;have Q:=hid (f.out.at_.rd f.out.below.size);clear hs o hd z e8;go_wp2_with (first
   | ((with_reducible refine aQ 79 (.tmp 2) ?_);refine ldD F.out ?_))
  refine (p.out _ Q.out.1 Q.out.2).mono ?_;rintro e w6 ⟨⟨_,rfl,A3,c3,I,G,rfl,Kx,U,O⟩,q⟩;obtain⟨im3,J,M,L⟩:=d3;have Eq:=hid U;have Kz:=hid O;have Ld:=hid q;have Z:=hid (F.out.up q F.out.lt);have R:=hid (f.out.be.up q f.out.be.lt);have Me:=hid (HL.out.up q HL.out.lt);have P:=hid (Bo w1.heap.size w.heap.size _ A3 I M L n c3 J.length G w6 rfl R.out Z.out (by omega));clear U O q p N;dsimp only at P |-;go_wp2_with fail;refine P.out.mono ?_;rintro e w7 ⟨rfl,T,o,E⟩;have Y:=hid (f.out.do_ Ld.out Ll Eq.out Kz.out Kx C.out s.out T o E);have Mi:=hid (E.bx Me.out (by omega) (by omega));clear T o E;go_wp2;go_roundw
  case rel=>exact⟨k+1,_,_,_,_,_,by omega,by go_num,Ky,Y,Mi⟩
  case measure=>simp[RowKit.intOf];omega
 obtain rfl:k=256:=by omega
 obtain⟨r,g,t,y⟩:=d2;have Le:=(qd f.out.ok).1;dsimp only at Le;have p:=hid (λW (h:RdW W W.heap.size A2 r) (h2:RdQ W W.heap.size D g)=>BK A2 D r g t y n c2 g.length V W f.out.len rfl f.out.ok (by omega) h h2);unfold lX at p;have s:=hid (Ho f.out.ok);have C:=hid ((CT ⟨r,g,t,y⟩).trans f.out.len);have HR:Hid (rpP ⟨im,dw,lf,dn⟩ l=dvN ⟨r,g,t,y⟩):=hid (by unfold rpP;rw[Mr.out,z.out]);obtain⟨d3,o⟩:∃d3,dvN ⟨r,g,t,y⟩=d3:=⟨_,rfl⟩;rw[o] at p s C HR;rw[C.out] at p;have hd:=f.out.bd;dsimp only at hd;have F:=hid hd;have Q:=hid (f.out.at_.rd f.out.below.size);clear o hd z H hk ik1;go_wp2_with (first
  | ((with_reducible refine aQ 79 (.tmp 2) ?_);refine ldD F.out ?_))
 refine (p.out _ Q.out.1 Q.out.2).mono ?_;rintro e w6 ⟨⟨_,rfl,A3,c3,I,G,rfl,Kx,U,O⟩,q⟩;obtain⟨im3,J,M,L⟩:=d3;have Eq:=hid U;have Kz:=hid O;have Ld:=hid q;have Z:=hid (F.out.up q F.out.lt);have R:=hid (f.out.be.up q f.out.be.lt);have P:=hid (Bo w1.heap.size w.heap.size _ A3 I M L n c3 J.length G w6 rfl R.out Z.out (by omega));clear U O q p;dsimp only at P |-;go_wp2_with fail;refine P.out.mono ?_;rintro e w7 ⟨rfl,T,o,E⟩;have Y:=hid (f.out.do_ Ld.out Ll Eq.out Kz.out Kx C.out s.out T o E);have Mj:=hid (E.own (am Eq.out (show w1.heap.size+1<=wr.heap.size from f.out.be.lt)) (by omega) (by omega));have Mt:=hid (E.own (am Kz.out (show w1.heap.size+1<=wr.heap.size from f.out.be.lt)) (by omega) (by omega));clear T o E;go_wp2_with fail;obtain⟨W7,Lu⟩:=xq w7.drew;have DB:=hid (show Bx w7.drew _ _ _ from Y.out.bd);have EB:=hid (show Bx w7.drew _ _ _ from Y.out.be);have RB:=hid (show Bx w7.drew _ _ _ from Y.out.br);have BB:=hid (Y.out.below.drew);have Lr:=hid (show w7.drew.ownsRow _ _ _ _ _ _ from Mj.out);have Ln:=hid (show w7.drew.ownsRow _ _ _ _ _ _ from Mt.out);dsimp only at DB EB RB Ln
 refine kz9 (S:=λX:World=>Bx X w.heap.size 79 #[.slice A3 n c3,.slice I J.length G,.int .i64 M,.bool L]/\Bx X w1.heap.size 27 #[.int .i64 0]) (by kernel_rfl) ⟨DB.out,EB.out⟩ (λLb=>?_);rw[Lu] at DB EB RB BB Lr Ln Lb |-;clear Lu;show wpAnyH _ _ _ _ _ 4 #[false,false,false,false] _ _;refine tk 0 (.agg #[.slice A3 n c3,.slice I J.length G,.int .i64 M,.bool L]) ?_ ?_
 .intro X hX;exact ri 79 (.tmp 2) rfl w.heap.size (by rfl) 79 _ _ hX.1 underlying79 (by rfl) kB
 dsimp only[Act.put,kqe,kqd,kqc,kqb,kqg,kqf];refine tk 1 (.int .i64 0) ?_ ?_
 .intro X hX;obtain⟨e0,-,-⟩:=hX.2.c1;go_simp
 dsimp only[Act.put,kqe,kqd,kqc,kqb,kqg,kqf];refine kz3 (rs:=[2]) (by kernel_rfl) (by simp) ?_;refine AllReadyH.cons rfl (λK hK=>?_) AllReadyH.nil;rw[if_pos (by kernel_rfl)];refine sM 79 (.tmp 4) _ rfl (w.heap.size+1) 79 #[.slice none 0 0,.slice none 0 0,.int .i64 0,.bool false] #[.slice A3 n c3,.slice I J.length G,.int .i64 M,.bool L] (by rfl) (by rfl) RB.out rfl kB (by simp[Value.oneCell']) ?_;intro W8 Ma Lh;refine hK.out _ _ ⟨Lh.bx DB.out (by omega),Lh.bx EB.out (by omega)⟩ (λMo=>?_);have Mg:=hid Ma;have Lp:=hid Lh;clear hK K Ma Lh Lb;refine tj 3 (.int .i64 0) ?_;dsimp only[Act.put,kqe,kqd,kqc,kqb,kqg,kqf];clear Mo;refine kxw (by kernel_rfl) ?_ _;go_wp2_with fail;refine kqq (v:=.tuple #[.agg #[.slice A3 n c3,.slice I J.length G,.int .i64 M,.bool L],.int .i64 0]) (bi results128 _ Mg.out rfl rfl rfl) rfl ⟨⟨_,rfl,by
  rw[HR.out];unfold lX;dsimp only;rw[show im3.length=n from C.out];exact⟨A3,c3,I,G,rfl,Kx,am (aq Lr.out Lp.out (by omega)) (by omega),am (aq Ln.out Lp.out (by omega)) (by omega)⟩⟩,Lp.out.below BB.out (by omega)⟩
section
variable {w wr wr':World} {gE n c dc:Nat} {d:Dv} {A DA:Option Addr}
theorem RpSt.setE(h:RpSt w gE n d A c DA dc wr)(hE:w.heap.size+1<gE):RpSt w gE n d A c DA dc (wr.setCell ⟨gE,0,none⟩ (.int .i64 0)):=by
 refine⟨h.be.set_ 0 _,h.bd.far (p:=⟨gE,0,none⟩) (show w.heap.size≠gE by omega) _,h.br.far (p:=⟨gE,0,none⟩) (show w.heap.size+1≠gE by omega) _,?_,h.len,h.cap,h.ok,h.below.setCell (p:=⟨gE,0,none⟩) (show w.heap.size<=gE by omega) _⟩;rcases h.at_ with a|a
 .exact .inl ⟨a.1.set_ (p:=⟨gE,0,none⟩) (show w.heap.size<=gE by omega) _,a.2.set_ (p:=⟨gE,0,none⟩) (show w.heap.size<=gE by omega) _⟩
 exact .inr ⟨aw a.1 (p:=⟨gE,0,none⟩) (bQ a.1 (kjs gE)).symm _,aw a.2 (p:=⟨gE,0,none⟩) (bQ a.2 (kjs gE)).symm _⟩
end
theorem wI(B:Option Addr)(l:List En)(ln lc gE n:Nat)(im:List Nat)(dw:List Dw)(lf:Int)(dn:Bool)(A:Option Addr)(c:Nat)(DA:Option Addr)(dc:Nat)(w wr:World)(hs:RpSt w gE n ⟨im,dw,lf,dn⟩ A c DA dc wr)(hln:l.length=ln)(h64:ln<=64)(hin:mU n l)(hv:∀e∈l,e.v<18446744073709551616)(hE:w.heap.size+1<gE)(he:RdE wr wr.heap.size B l):
 Calls prog 127 #[.slice B ln lc,.pointer (some ⟨gE,0,none⟩),.pointer (some ⟨w.heap.size,0,none⟩)] wr λe w'=>e=.returned (.tuple #[])/\∃A2 c2 DA2 dc2,RpSt w gE n (rpP ⟨im,dw,lf,dn⟩ l) A2 c2 DA2 dc2 w'/\w'.ownsRow (gE+1) 53 1 (.slice A2 n c2) n ((rpP ⟨im,dw,lf,dn⟩ l).im.flatMap ae)/\w'.ownsRow (gE+1) 92 3 (.slice DA2 (rpP ⟨im,dw,lf,dn⟩ l).dw.length dc2) (rpP ⟨im,dw,lf,dn⟩ l).dw.length ((rpP ⟨im,dw,lf,dn⟩ l).dw.flatMap Dw.cells):=by
 have x:=hid hs;have k:=hid (IW A DA B im dw lf dn n c dw.length dc l ln lc wr hs.len rfl hs.cap hs.ok hln h64 hin hv (hs.at_.rd hs.below.size).1 (hs.at_.rd hs.below.size).2 he);unfold lX at k;have o:=hid (qc hs.ok (l:=l) (by rw[hs.len];exact hin));have G:=hid ((mz ⟨im,dw,lf,dn⟩ l).trans hs.len);obtain⟨J,m⟩:∃J,rpP ⟨im,dw,lf,dn⟩ l=J:=⟨_,rfl⟩;rw[m] at k o G |-;rw[G.out] at k;obtain⟨T,R,hge⟩:=hs.be.c1;have C:=hs.bd;dsimp only at C;have b:=hid C;clear hs hln hin hv he m C;go_enter func127,ntmps127;go_wp2_with (first
  | ((with_reducible refine aQ 79 (.tmp 2) ?_);refine ldD b.out ?_))
 refine k.out.mono ?_;rintro e P ⟨⟨_,rfl,L,N,s,g,rfl,F,d,i⟩,a⟩;obtain⟨im3,y,z,H⟩:=J;have h:=hid d;have t:=hid i;have D:=hid a;have O:=hid (b.out.up a b.out.lt);have S:=hid (x.out.be.up a x.out.be.lt);have E:gE≠w.heap.size:=by omega
 have j:w.heap.size≠gE:=by omega
 clear d i a k T R;dsimp only;go_wp2_with (((with_reducible refine ar 79 (.tmp 2) _ ?_);refine ao rfl _ _ _ rfl w.heap.size 79 _ #[.slice L n N,.slice s y.length g,.int .i64 z,.bool H] (by rfl) (by rfl) O.out rfl kB (by simp[Value.oneCell']) ?_;intro u f r;have Q:=hid f;have K:=hid r;clear f r;have M:=hid (K.out.bx S.out E);obtain⟨u0,uf,-⟩:=M.out.c1));go_end0;have I:Two P (u.setCell ⟨gE,0,none⟩ (.int .i64 0)) w.heap.size gE:=⟨u,K.out.grown,eM (vs:=[.int .i64 0]) (ew (kqk u.heap.size u))⟩;have q:gE+1<=wr.heap.size:=x.out.be.lt;exact⟨rfl,L,N,s,g,x.out.do_ D.out hE h.out t.out F G.out o.out (M.out.set_ 0 (.int .i64 0)) (Q.out.far (p:=⟨gE,0,none⟩) j _) I,I.own (am h.out q) (by omega) (by omega),I.own (am t.out q) (by omega) (by omega)⟩
theorem mrg{F P:Nat->Nat->World->Prop}{Q:Prop}(h1:(∀g c w,F g c w->P g c w)->Q)(h2:∀g c w,F g c w->P g c w):Q:=h1 h2
theorem EK(ho:∀e∈l,e.ok):∀v∈bM l,v<18446744073709551616:=wy ho
theorem xB(A DA B:Option Addr)(im:List Nat)(dw:List Dw)(lf:Int)(dn:Bool)(n c m dc:Nat)(l:List En)(ln lc:Nat)(w:World)(hn:im.length=n)(hm:dw.length=m)(hc:n<=c)(hok:ff ⟨im,dw,lf,dn⟩=true)(hln:l.length=ln)(h0:0<ln)(h32:ln<=32)(hent:dL (av l) (n:Int)=0)(h24:wd (dvV ⟨im,dw,lf,dn⟩) 24=0)(hin:mU n l)(ho:∀e∈l,e.ok)(hi:RdW w w.heap.size A im)(hr:RdQ w w.heap.size DA dw)(o:RdE w w.heap.size B l):
 Calls prog 82 #[.agg #[.slice A n c,.slice DA m dc,.int .i64 lf,.bool dn],.slice B ln lc] w λe w'=>(∃u,e=.returned (.tuple #[u,.int .i64 0])/\lX w' w.heap.size (atM ⟨im,dw,lf,dn⟩ l) u)/\Below w.heap.size w w':=by
 have hb:=qd hok;dsimp only at hb;rw[hn,hm] at hb;obtain⟨hb1,hb2,hb3⟩:=hb;have Lq:l≠[]:=λe=>by rw[e] at hln;simp at hln;omega
 have Ll:=hid (pV (d:=⟨im,dw,lf,dn⟩) Lq);have L:=hid (λW (h:RdW W W.heap.size A im) (h2:RdQ W W.heap.size DA dw)=>rB A DA im dw lf dn n c m dc W hn hm (by omega) (by omega) h h2);unfold GH at L;rw[kq hok] at L;have Mu:(dvV ⟨im,dw,lf,dn⟩).length=n:=(kH _).trans hn;dsimp only at L;rw[hn] at L;have P:=hid (λW (h:RdE W W.heap.size B l)=>pR B l lc ln (n:Int) W hln (by omega) h ho);unfold Cc at P;rw[hent,show eE l (n:Int)=bM l by simp[eE,hent]] at P;have Lc:(bM l).length=2*ln:=by rw[fS,hln]
 rw[Lc] at P;have Lt:=hid Lc;have Nn:=hid (λW (h:RdE W W.heap.size B l)=>vy B l lc ln (n:Int) W hln h0 h32 hent h ho);have Nz:=hid (λB2 c2 W (h:RdW W W.heap.size B2 (bM l))=>vf B2 (bM l) c2 (2*ln) 32 W Lc (by omega) (by omega) h);have Nb:=hid (λB2 c2 v W (h:RdW W W.heap.size B2 [v])=>vf B2 [v] c2 1 24 W rfl (by omega) (by omega) h);have Nu:=hid (Hl (l:=l) (by omega));have Qd:=hid (EK ho);have J:=hid (λ(W:World) (h:RdW W W.heap.size A im)=>mC A im c n W.heap.size W hn (by omega) (by omega) h (kqa _));unfold CM at J;rw[hn] at J;have La:=hid (λW (h:RdQ W W.heap.size DA dw)=>vD DA dw dc m W hm (by omega) h);unfold OwnQ at La;rw[hm] at La;obtain⟨W0,Qq,x0,x1,Mt,Nv⟩:=nU w A DA lf dn n c m dc;have X0:=hid x0;have X1:=hid x1;have Kx:=hid Mt;have HI:=hid hi;have HQ:=hid hr;have HE:=hid o;have HN:=hid hn;have HM:=hid hm;have Nd:=hid hok;have Qm:=hid hin;have Qc:=hid h24;have Qe:=hid Mu;have Qb:=hid hln;have Qh:=hid (λe o=>(ho e o).2.2);have Mf:w.heap.size<=W0.heap.size:=by omega
 have Nx:w.heap.size<W0.heap.size:=by omega
 have Qk:w.heap.size+1<W0.heap.size:=by omega
 have hl0:((ln:Int)==0)=false:=by rw[kqi];omega
 clear hi hr o x0 x1 Mt Nv hn hm hok hin h24 Mu hln ho hent Lq Lc;go_enter func82,ntmps82;go_wp2_with (first
  | ((with_reducible refine aQ 79 (.tmp 2) ?_);refine ldD X0.out ?_))
 clear Qq;refine (L.out W0 (HI.out.up Kx.out Mf) (HQ.out.up Kx.out Mf)).mono ?_;rintro e b ⟨⟨Nf,-⟩,V⟩;obtain⟨gv,cv,rfl,T⟩:=Nf (by trivial);have Qp:=V.size;have G:w.heap.size+1<b.heap.size:=by omega
 have I:=hid (show RpSt w b.heap.size n ⟨im,dw,lf,dn⟩ A c DA dc (b.alloc (.cells #[.int .i64 0] 27)) from by
  have ha:Below b.heap.size b (b.alloc (.cells #[.int .i64 0] 27)):=(kqk _ _).alloc (kqa _) _;have Mg:=Kx.out.trans ((V.trans (ha.mono Qp)).mono Mf);refine⟨Bx.new _ _ _,?_,(X1.out.up V Qk).alloc _,.inl ⟨HI.out.below Mg,HQ.out.below Mg⟩,HN.out,hc,Nd.out,Mg⟩;dsimp only;rw[HM.out];exact (X0.out.up V Nx).alloc _)
 have Na:=hid (show RdW b b.heap.size (some ⟨gv,0,none⟩) (dvV ⟨im,dw,lf,dn⟩) from Rd.of_own T);clear Nf T V L X0 X1;have Ni:=hid (show RdW (b.alloc (.cells #[.int .i64 0] 27)) b.heap.size (some ⟨gv,0,none⟩) (dvV ⟨im,dw,lf,dn⟩) from Na.out.alloc (kqa _) _);have hz2:(b.alloc (.cells #[.int .i64 0] 27)).heap.size=b.heap.size+1:=kqm _ _;go_wp2_with fail;refine (P.out _ (HE.out.up I.out.below I.out.below.size)).mono ?_;rintro e w2 ⟨⟨B2,c2,rfl,Ml⟩,M⟩;have ST2:=hid ((I.out.up M).setE G);have Lb:=hid ((Ni.out.below (M.mono (by omega))).set_ (p:=⟨b.heap.size,0,none⟩) (kqa _) (.int .i64 0));have Mi:=hid (am (aw Ml (p:=⟨b.heap.size,0,none⟩) (bQ Ml (show b.heap.size<(b.alloc (.cells #[.int .i64 0] 27)).heap.size by omega)).symm (.int .i64 0)) (show b.heap.size+1<=(b.alloc (.cells #[.int .i64 0] 27)).heap.size by omega));obtain⟨W2,Mq⟩:∃W,w2.setCell ⟨b.heap.size,0,none⟩ (.int .i64 0)=W:=⟨_,rfl⟩;rw[Mq] at ST2 Lb Mi;have Mz:Hid (b.heap.size+1<=W2.heap.size):=hid (by rw[<-Mq,kz6];have:=M.size;omega);obtain⟨bV,oV,Ld,hbV,v24⟩:=RdW.at_ (l:=dvV ⟨im,dw,lf,dn⟩) Lb.out (show 24<(dvV ⟨im,dw,lf,dn⟩).length by rw[Qe.out];omega);obtain⟨rfl,rfl⟩:gv=bV/\0=oV:=by injection Ld with Ld;injection Ld with h1 h2 h3;exact⟨h1,h2⟩
 rw[<-cF,Qc.out] at v24;have Nh:=hid (Rd.more Lb.out (show b.heap.size<=W2.heap.size by have:=Mz.out;omega));obtain⟨e0,ef0,Qa⟩:=ST2.out.be.c1;obtain⟨f0,ff0,Kw⟩:=(I.out.be.up M I.out.be.lt).c1;clear M Ml I Na Ni Ld;go_wp2_with fail;have r:=hid (ST2.out.up ((kqk _ _).drew));have Ny:=hid (show RdW W2.drew W2.drew.heap.size _ _ from Nh.out);have Mh:=hid (show W2.drew.ownsRow _ _ _ _ _ _ from Mi.out);have Mm:Hid (b.heap.size+1<=W2.drew.heap.size):=hid Mz.out;obtain⟨X0,No⟩:=xq W2.drew;refine kz9 (S:=λ_=>True) (by kernel_rfl) trivial (λhT=>?_);rw[No] at r Ny Mh Mm |-;clear No Mq e0 ef0 Qa f0 ff0 Kw v24 ST2 Nh Mi Lb;obtain⟨d0,d1,d2,d3,df0,df1,df2,df3,Qj⟩:=r.out.bd.c4;dsimp only at d1;rw[HM.out] at d1;have Ns:=hid r.out.below.size;have Le:=hid ((r.out.at_.rd Ns.out).1);have Ms:=hid ((r.out.at_.rd Ns.out).2);dsimp only at Le Ms;show wpAnyH _ _ _ _ _ 10 #[false,false,false,false,false,false,false,false,false,false] _ _;refine tj 0 (.pointer (some ⟨w.heap.size,0,none⟩)) ?_;dsimp only[Act.put,kqe,kqd,kqc,kqb,kqg,kqf];refine tj 3 (.pointer (some ⟨w.heap.size,1,none⟩)) ?_;dsimp only[Act.put,kqe,kqd,kqc,kqb,kqg,kqf];refine' mrg (F:=λg3 c3 w3=>Hid (Below X0.heap.size X0 w3/\w3.ownsRow X0.heap.size 53 1 (.slice (some ⟨g3,0,none⟩) n c3) n (im.flatMap ae))) ?h1 ?h2
 case h1 =>
  intro H;refine kz3 (rs:=[1,4]) (by kernel_rfl) (by simp) ?_;refine AllReadyH.cons rfl (λK f=>?_) (AllReadyH.cons rfl (λK f=>?_) AllReadyH.nil)
  .rw[if_pos (by kernel_rfl)];go_simp;refine f.out _ _ trivial (λhT=>?_);clear f K;(try dsimp only[Act.put,kqe,kqd,kqc,kqb,kqg,kqf]);refine kz3 (rs:=[2,4]) (by kernel_rfl) (by simp) ?_;refine AllReadyH.cons rfl (λK f=>?_) (AllReadyH.cons rfl (λK f=>?_) AllReadyH.nil)
   .rw[if_pos (by kernel_rfl)];go_simp;refine (J.out X0 Le.out).mono ?_;rintro e w3 ⟨g3,c3,rfl,a,g⟩;go_simp;refine f.out _ _ trivial (λhT=>?_);clear f K;(try dsimp only[Act.put,kqe,kqd,kqc,kqb,kqg,kqf]);have e1:=(g.cell (p:=⟨w.heap.size,1,none⟩) Qj).trans d1;refine kz3 (rs:=[4]) (by kernel_rfl) (by simp) ?_;refine AllReadyH.cons rfl (λK f=>?_) AllReadyH.nil;rw[if_pos (by kernel_rfl)];go_simp;refine f.out _ _ trivial (λhT=>?_);clear f K;(try dsimp only[Act.put,kqe,kqd,kqc,kqb,kqg,kqf]);exact H _ _ _ (hid ⟨g,a⟩)
   rw[if_pos (by kernel_rfl)];go_simp;refine f.out _ _ trivial (λhT=>?_);clear f K;(try dsimp only[Act.put,kqe,kqd,kqc,kqb,kqg,kqf]);refine kz3 (rs:=[2]) (by kernel_rfl) (by simp) ?_;refine AllReadyH.cons rfl (λK f=>?_) AllReadyH.nil;rw[if_pos (by kernel_rfl)];go_simp;refine (J.out X0 Le.out).mono ?_;rintro e w3 ⟨g3,c3,rfl,a,g⟩;go_simp;refine f.out _ _ trivial (λhT=>?_);clear f K;(try dsimp only[Act.put,kqe,kqd,kqc,kqb,kqg,kqf]);exact H _ _ _ (hid ⟨g,a⟩)
  rw[if_pos (by kernel_rfl)];go_simp;refine f.out _ _ trivial (λhT=>?_);clear f K;(try dsimp only[Act.put,kqe,kqd,kqc,kqb,kqg,kqf]);refine kz3 (rs:=[1]) (by kernel_rfl) (by simp) ?_;refine AllReadyH.cons rfl (λK f=>?_) AllReadyH.nil;rw[if_pos (by kernel_rfl)];go_simp;refine f.out _ _ trivial (λhT=>?_);clear f K;(try dsimp only[Act.put,kqe,kqd,kqc,kqb,kqg,kqf]);refine kz3 (rs:=[2]) (by kernel_rfl) (by simp) ?_;refine AllReadyH.cons rfl (λK f=>?_) AllReadyH.nil;rw[if_pos (by kernel_rfl)];go_simp;refine (J.out X0 Le.out).mono ?_;rintro e w3 ⟨g3,c3,rfl,a,g⟩;go_simp;refine f.out _ _ trivial (λhT=>?_);clear f K;(try dsimp only[Act.put,kqe,kqd,kqc,kqb,kqg,kqf]);exact H _ _ _ (hid ⟨g,a⟩)
 case h2 =>
  intro g3 c3 w3 HF;(try dsimp only);obtain⟨g,a⟩:=HF.out;refine tj 6 (.pointer (some ⟨w.heap.size,0,none⟩)) ?_;dsimp only[Act.put,kqe,kqd,kqc,kqb,kqg,kqf];refine kz3 (rs:=[5]) (by kernel_rfl) (by simp) ?_;refine AllReadyH.cons rfl (λK f=>?_) AllReadyH.nil;rw[if_pos (by kernel_rfl)];go_simp;refine (La.out w3 (Ms.out.up g g.size)).mono ?_;rintro e w4 ⟨A5,c5,rfl,U,Mj⟩;go_simp;refine f.out _ _ trivial (λQi=>?_);clear f K;(try dsimp only[Act.put,kqe,kqd,kqc,kqb,kqg,kqf]);have x:=g.trans (Mj.mono g.size);have hz34:=x.size;have E:=hid (r.out.up x);have Nc:=hid (am (aa a Mj (kqa _)) Mm.out);have Nt:=hid (am U (kz7 Mm.out g.size));have Ky:=hid (aa Mh.out x (kqa _));obtain⟨q0,q1,q2,q3,qf0,qf1,qf2,qf3,Nw⟩:=E.out.bd.c4;dsimp only at q1;rw[HM.out] at q1;clear d0 d1 d2 d3 df0 df1 df2 df3 g a U Mj HF x;refine kz3 (rs:=[7]) (by kernel_rfl) (by simp) ?_;refine AllReadyH.cons rfl (λK f=>?_) AllReadyH.nil;rw[if_pos (by kernel_rfl)];go_simp;refine f.out _ _ trivial (λQl=>?_);clear f K;(try dsimp only[Act.put,kqe,kqd,kqc,kqb,kqg,kqf]);refine tj 8 (.pointer (some ⟨w.heap.size,1,none⟩)) ?_
  dsimp only[Act.put,kqe,kqd,kqc,kqb,kqg,kqf];refine kz3 (rs:=[9]) (by kernel_rfl) (by simp) ?_;refine AllReadyH.cons rfl (λK f=>?_) AllReadyH.nil;rw[if_pos (by kernel_rfl)];go_simp;refine f.out _ _ trivial (λQg=>?_);clear f K hT Qi Ql Qg;(try dsimp only[Act.put,kqe,kqd,kqc,kqb,kqg,kqf]);refine kxw (by kernel_rfl) ?_ _;have Li:b.heap.size≠w.heap.size:=by omega
  have j:∀ {sz k:Nat} {e:TypeId} {v:Value} {xs:List Value} {W:World},W.ownsRow (b.heap.size+1) e sz v k xs->v.ownBlock≠some w.heap.size:=λh=>(bQ h (show w.heap.size<b.heap.size+1 by omega)).symm;have s:=hid (show RpSt w b.heap.size n ⟨im,dw,lf,dn⟩ (some ⟨g3,0,none⟩) c3 A5 c5 ((w4.setCell ⟨w.heap.size,0,none⟩ (.slice (some ⟨g3,0,none⟩) n c3)).setCell ⟨w.heap.size,1,none⟩ (.slice A5 m c5)) from by
   have b1:=E.out.bd;dsimp only at b1;rw[HM.out] at b1;have o1:=Nc.out;have o2:=Nt.out;refine⟨(E.out.be.far (p:=⟨w.heap.size,0,none⟩) Li _).far (p:=⟨w.heap.size,1,none⟩) Li _,?_,(E.out.br.far (p:=⟨w.heap.size,0,none⟩) (show w.heap.size+1≠w.heap.size by omega) _).far (p:=⟨w.heap.size,1,none⟩) (show w.heap.size+1≠w.heap.size by omega) _,.inr ⟨?_,?_⟩,HN.out,cK o1,Nd.out,(E.out.below.setCell (p:=⟨w.heap.size,0,none⟩) (kqa _) _).setCell (p:=⟨w.heap.size,1,none⟩) (kqa _) _⟩
   .dsimp only;rw[HM.out];exact (b1.set_ 0 (.slice (some ⟨g3,0,none⟩) n c3)).set_ 1 (.slice A5 m c5)
   .exact aw (aw o1 (p:=⟨w.heap.size,0,none⟩) (j o1) _) (p:=⟨w.heap.size,1,none⟩) (j o1) _
   dsimp only;rw[HM.out];exact aw (aw o2 (p:=⟨w.heap.size,0,none⟩) (j o2) _) (p:=⟨w.heap.size,1,none⟩) (j o2) _)
  have Kz:=hid (aw (aw Ky.out (p:=⟨w.heap.size,0,none⟩) (j Ky.out) (.slice (some ⟨g3,0,none⟩) n c3)) (p:=⟨w.heap.size,1,none⟩) (j Ky.out) (.slice A5 m c5));obtain⟨W5,Mw⟩:∃W,(w4.setCell ⟨w.heap.size,0,none⟩ (.slice (some ⟨g3,0,none⟩) n c3)).setCell ⟨w.heap.size,1,none⟩ (.slice A5 m c5)=W:=⟨_,rfl⟩;rw[Mw] at s Kz |-;clear Mw q0 q1 q2 q3 qf0 qf1 qf2 qf3 Nw E Nc Nt Ky Mh r;go_wp2_with fail;refine (Nn.out _ (HE.out.up s.out.below s.out.below.size)).mono ?_;rintro e w6 ⟨rfl,Y⟩;have ST6:=hid ((s.out.up Y).setE G);have Mp:=hid (aw (aa Kz.out Y (kqa _)) (p:=⟨b.heap.size,0,none⟩) (bQ (aa Kz.out Y (kqa _)) (kjs b.heap.size)).symm (.int .i64 0));obtain⟨f0,ff0,Kw⟩:=(s.out.be.up Y s.out.be.lt).c1;obtain⟨W6,Mx⟩:∃W,w6.setCell ⟨b.heap.size,0,none⟩ (.int .i64 0)=W:=⟨_,rfl⟩;rw[Mx] at ST6 Mp;clear Y s Kz;go_wp2_with fail;have Mr:=hid (show RdW W6 W6.heap.size B2 (bM l) from Rd.of_own Mp.out);clear Mx f0 ff0 Kw Mp;refine (Nz.out _ _ W6 Mr.out).mono ?_;rintro e w7 ⟨⟨A7,c7,rfl,R⟩,Nr⟩;have Np:=hid (ST6.out.up Nr);have Ng:=hid (show RdE w7 w7.heap.size A7 (lsE 32 (bM l)) from Rd.of_own R);clear R Nr ST6 Mr;have HB0':=hid (Kx.out)
  have V1:=hid (show mU n (lsE 32 (bM l))/\∀e∈lsE 32 (bM l),e.v<18446744073709551616 from ⟨λe o=>by have:=oh (bM l) 32 (n:=n) (by rw[Lt.out];omega) e o;omega,GT _ _ Qd.out⟩);have V2:=hid (show mU n [⟨24,cmW l⟩]/\∀e∈([⟨24,cmW l⟩]:List En),e.v<18446744073709551616 from ⟨λe o=>by rw[kqy] at o;subst o;dsimp only;omega,λe o=>by rw[kqy] at o;subst o;exact Nu.out⟩);have V4:=hid (show mU n [⟨24,0⟩]/\∀e∈([⟨24,0⟩]:List En),e.v<18446744073709551616 from ⟨λe o=>by rw[kqy] at o;subst o;dsimp only;omega,λe o=>by rw[kqy] at o;subst o;decide⟩);have V3:=hid (And.intro Qm.out Qh.out);have Qo:=hid (show (lsE 32 (bM l)).length=2*ln by rw[tR,Lt.out]);have q:=hid Ll.out;unfold atL at q;simp only[kxv,kvv] at q;clear Ll P Nn J La;go_wp2_with fail;refine (wI _ (lsE 32 (bM l)) (2*ln) _ b.heap.size n im dw lf dn _ _ _ _ w _ Np.out Qo.out (by omega) V1.out.1 V1.out.2 G Ng.out).mono ?_;rintro e w9 ⟨rfl,A9,c9,DA9,dc9,Mn,-⟩;obtain⟨d9,Nl⟩:∃d,rpP ⟨im,dw,lf,dn⟩ (lsE 32 (bM l))=d:=⟨_,rfl⟩;rw[Nl] at Mn q;obtain⟨im9,dw9,lf9,dn9⟩:=d9;have My:=hid Mn;clear Mn Nl Np Ng;have Mb:=hid (My.out.alloc (.cells #[.int .u64 ((cmW l:Nat):Int)] 53))
  have N:=hid (show RdW (w9.alloc (.cells #[.int .u64 ((cmW l:Nat):Int)] 53)) (w9.alloc (.cells #[.int .u64 ((cmW l:Nat):Int)] 53)).heap.size (some ⟨w9.heap.size,0,none⟩) [cmW l] from Rd.of_own (cJ (n:=1) (sz:=1) w9 53 #[.int .u64 ((cmW l:Nat):Int)] (kqa _) (by rfl) (by unfold maxLen;omega)));go_wp2_with fail;refine (Nb.out _ 1 (cmW l) _ N.out).mono ?_;rintro e w10 ⟨⟨A10,c10,rfl,z⟩,Lh⟩;have Me:=hid (Mb.out.up Lh);have Lo:=hid (show RdE w10 w10.heap.size A10 [⟨24,cmW l⟩] from Rd.of_own z);clear z Lh Mb N My;go_wp2_with fail;refine (wI _ [⟨24,cmW l⟩] 1 _ b.heap.size n im9 dw9 lf9 dn9 _ _ _ _ w _ Me.out rfl (by omega) V2.out.1 V2.out.2 G Lo.out).mono ?_;rintro e w11 ⟨rfl,A11,c11,DA11,dc11,O,-⟩;obtain⟨d11,Lj⟩:∃d,rpP ⟨im9,dw9,lf9,dn9⟩ [⟨24,cmW l⟩]=d:=⟨_,rfl⟩;rw[Lj] at O q;obtain⟨Md,Lu,Lp,Lg⟩:=d11;have C:=hid O;clear O Lj Me Lo;go_wp2_with fail;refine (wI _ l ln _ b.heap.size n Md Lu Lp Lg _ _ _ _ w _ C.out Qb.out (by omega) V3.out.1 V3.out.2 G (HE.out.up C.out.below C.out.below.size)).mono ?_;rintro e w12 ⟨rfl,A12,c12,DA12,dc12,Q,-⟩;obtain⟨d12,Lr⟩:∃d,rpP ⟨Md,Lu,Lp,Lg⟩ l=d:=⟨_,rfl⟩;rw[Lr] at Q q;obtain⟨Ls,Lm,Ln,Lk⟩:=d12;have Lw:=hid Q;clear Q Lr C
  have Lx:=hid (Lw.out.alloc (.cells #[.int .u64 0] 53));have Eq:=hid (show RdW (w12.alloc (.cells #[.int .u64 0] 53)) (w12.alloc (.cells #[.int .u64 0] 53)).heap.size (some ⟨w12.heap.size,0,none⟩) [0] from Rd.of_own (cJ (n:=1) (sz:=1) w12 53 #[.int .u64 0] (kqa _) (by rfl) (by unfold maxLen;omega)));go_wp2_with fail;refine (Nb.out _ 1 (0) _ Eq.out).mono ?_;rintro e w13 ⟨⟨A13,c13,rfl,y⟩,Mc⟩;have Ly:=hid (Lx.out.up Mc);have Lv:=hid (show RdE w13 w13.heap.size A13 [⟨24,0⟩] from Rd.of_own y);clear y Mc Lx Eq Lw;go_wp2_with fail;refine (wI _ [⟨24,0⟩] 1 _ b.heap.size n Ls Lm Ln Lk _ _ _ _ w _ Ly.out rfl (by omega) V4.out.1 V4.out.2 G Lv.out).mono ?_;rintro e w14 ⟨rfl,A14,c14,Lf,Lz,Z,t,D⟩;obtain⟨d14,Ma⟩:∃d,rpP ⟨Ls,Lm,Ln,Lk⟩ [⟨24,0⟩]=d:=⟨_,rfl⟩;rw[Ma] at Z q t D;obtain⟨im14,Nq,Mv,Nk⟩:=d14;have i:=hid Z;clear Z Ma Ly Lv;obtain⟨f0,-,-⟩:=i.out.be.c1;have hd:=i.out.bd;have hl:=i.out.len;dsimp only at hd hl t D;have Qn:=hid hd;have Qr:=hid hl;have Nj:=hid t;have Nm:=hid D;clear hd hl t D;go_wp2_with (first
   | ((with_reducible refine aQ 79 (.tmp 2) ?_);refine ldD Qn.out ?_)
   | ((with_reducible refine ar 79 (.tmp 4) _ ?_);refine stD i.out.br ?_;intro w99 Qf Mo))
  refine kqq (v:=.tuple #[.agg #[.slice A14 n c14,.slice Lf Nq.length Lz,.int .i64 Mv,.bool Nk],.int .i64 0]) (bi results82 _ Qf.out rfl rfl rfl) rfl ⟨⟨_,rfl,by
   rw[q.out];unfold lX;dsimp only;rw[Qr.out];exact⟨A14,c14,Lf,Lz,rfl,i.out.cap,am (aq Nj.out Mo.out (by omega)) (by omega),am (aq Nm.out Mo.out (by omega)) (by omega)⟩⟩,Mo.out.below i.out.below (by omega)⟩
theorem lay_24{ws:List Nat}(h:bT ws=0):wd ws 24=0:=by obtain⟨-,a⟩:=gO h;obtain⟨t,b⟩:=se a;exact b.z16 24 (by decide) (by decide)
def CoAt (w wr:World) (n:Nat) (d:Dv) (A:Option Addr) (c:Nat) (DA:Option Addr) (dc:Nat):Prop:=
 Bx wr w.heap.size 79 #[.slice A n c,.slice DA d.dw.length dc,.int .i64 d.left,.bool d.down]/\Bx wr (w.heap.size+1) 79 #[.slice none 0 0,.slice none 0 0,.int .i64 0,.bool false]/\n<=c/\d.im.length=n/\Below w.heap.size w wr
def CoGo (w wr:World) (n:Nat) (x0 y:List Nat) (r:Dv × Int) (d:Dv) (A:Option Addr) (c:Nat) (DA:Option Addr) (dc:Nat) (k:Nat) (vx:Value):Prop:=
 ∃E outs B lc,vx=.slice B E.length lc/\outs.length+1<k/\RnAt n x0 y d E outs/\CA (E::outs) d=r/\RdE wr wr.heap.size B E/\Ib w.heap.size (w.heap.size+2) wr A n c DA d.dw.length dc d.im d.dw
def CoEnd (w wr:World) (n:Nat) (r:Dv × Int) (d:Dv) (A:Option Addr) (c:Nat) (DA:Option Addr) (dc:Nat):Prop:=
 (d,0)=r/\wr.ownsRow (w.heap.size+2) 53 1 (.slice A n c) n (d.im.flatMap ae)/\wr.ownsRow (w.heap.size+2) 92 3 (.slice DA d.dw.length dc) d.dw.length (d.dw.flatMap Dw.cells)
theorem Do(w:World)(H:Nat):lX w H dvZ (.agg #[.slice none 0 0,.slice none 0 0,.int .i64 0,.bool false]):=⟨none,0,none,0,rfl,kqa _,qG _ _ _ _,qG _ _ _ _⟩
theorem Hy(A DA:Option Addr)(im:List Nat)(dw:List Dw)(lf:Int)(dn:Bool)(n c m dc:Nat)(w:World)(hn:im.length=n)(hm:dw.length=m)(hn2:n<=9223372036854775807)(hm2:m<=1000000)(hc:n<=c)(hlt:DvLt ⟨im,dw,lf,dn⟩)(hi:RdW w w.heap.size A im)(hr:RdQ w w.heap.size DA dw):
 Calls prog 37 #[.agg #[.slice A n c,.slice DA m dc,.int .i64 lf,.bool dn]] w λe w'=>(∃u,e=.returned (.tuple #[u,.int .i64 (coR ⟨im,dw,lf,dn⟩).2])/\lX w' w.heap.size (coR ⟨im,dw,lf,dn⟩).1 u)/\Below w.heap.size w w':=by
 have a:=hid (λW (h:RdW W W.heap.size A im) (h2:RdQ W W.heap.size DA dw)=>rB A DA im dw lf dn n c m dc W hn hm (by omega) (by omega) h h2);unfold GH at a;have Mu:(dvV ⟨im,dw,lf,dn⟩).length=n:=(kH _).trans hn;dsimp only at a;rw[hn] at a;obtain⟨W0,Lq,x0,x1,Mt,Nr⟩:=nU w A DA lf dn n c m dc;have X0:=hid x0;have X1:=hid x1;have k:=hid Mt;have HI:=hid hi;have HQ:=hid hr;have HN:=hid hn;have HM:=hid hm;have Nb:=hid hlt;have Nu:=hid Mu;have j:w.heap.size<=W0.heap.size:=by omega
 have Md:w.heap.size<W0.heap.size:=by omega
 have Lm:w.heap.size+1<W0.heap.size:=by omega
 have Kz:w.heap.size+1≠w.heap.size:=by omega
 clear hi hr x0 x1 Mt Nr hn hm hlt Mu;by_cases h0:fC ⟨im,dw,lf,dn⟩=0
 .rw[h0] at a;have Nf:=hid (pN h0);have Lj:=hid h0;clear h0;cases dn with
  | true =>
   have HV:Hid (coR ⟨im,dw,lf,true⟩=(dvZ,60)):=hid (by unfold coR;rw[if_pos Lj.out,if_pos rfl]);rw[HV.out];go_enter func37,ntmps37;go_wp2_with (first
    | ((with_reducible refine aQ 79 (.tmp 1) ?_);refine ldD X0.out ?_))
   clear Lq;refine (a.out W0 (HI.out.up k.out j) (HQ.out.up k.out j)).mono ?_;rintro e w1 ⟨⟨s,-⟩,d⟩;obtain⟨gv,cv,rfl,-⟩:=s (by trivial);have Y0:=hid (X0.out.up d Md);have Y1:=hid (X1.out.up d Lm);have y:=hid (k.out.trans (d.mono j));obtain⟨-,-,-,q3,-,-,-,-,hg⟩:=Y0.out.c4;clear s d a;go_wp2_with (first
    | ((with_reducible refine ar 79 (.tmp 2) _ ?_);refine stD Y1.out ?_;intro w9 x g))
   refine kqq (v:=.tuple #[.agg #[.slice none 0 0,.slice none 0 0,.int .i64 0,.bool false],.int .i64 60]) (bi results37 _ x.out rfl rfl rfl) rfl ⟨⟨_,rfl,Do _ _⟩,g.out.below y.out (by omega)⟩
  | false =>
   have F:=hid (λB R W (Mi:n<=R) (h:RdW W W.heap.size B (dvV ⟨im,dw,lf,false⟩))=>oa B (dvV ⟨im,dw,lf,false⟩) R n W Nu.out hn2 Mi h Nb.out.v);unfold fL at F;by_cases o:bT (dvV ⟨im,dw,lf,false⟩)=0
   .rw[o,if_pos rfl] at F;have La:=vh Nf.out Nb.out rfl o (lay_24 o);have HV:=hid (G9 Nf.out rfl o);dsimp only at La;rw[HN.out] at La;obtain⟨ZZ,No⟩:∃Z,cpZ (dvV ⟨im,dw,lf,false⟩)=Z:=⟨_,rfl⟩;obtain⟨VV,Ng⟩:∃Z,dvV ⟨im,dw,lf,false⟩=Z:=⟨_,rfl⟩;obtain⟨N,ho⟩:∃N,(rsE (dI (dvV ⟨im,dw,lf,false⟩))).2.1=N:=⟨_,rfl⟩;rw[ho,No,Ng] at La;rw[ho] at HV;have Ny:=hid La;obtain⟨rr,Le⟩:∃r,coR ⟨im,dw,lf,false⟩=r:=⟨_,rfl⟩;rw[Le] at HV |-;clear La ho Le o No Ng;go_enter func37,ntmps37;go_wp2_with (first
     | ((with_reducible refine aQ 79 (.tmp 1) ?_);refine ldD X0.out ?_))
    clear Lq;refine (a.out W0 (HI.out.up k.out j) (HQ.out.up k.out j)).mono ?_;rintro e w1 ⟨⟨s,-⟩,d⟩;obtain⟨gv,cv,rfl,p⟩:=s (by trivial);have Y0:=hid (X0.out.up d Md);have Y1:=hid (X1.out.up d Lm);have y:=hid (k.out.trans (d.mono j));have Me:=cK p;have Mn:=hid (show RdW w1 w1.heap.size _ _ from Rd.of_own p);obtain⟨-,-,-,q3,-,-,-,-,hg⟩:=Y0.out.c4;have Lc:=Y1.out.lt;clear s d a p;go_wp2_with fail;refine (F.out _ _ w1 Me Mn.out).mono ?_;rintro e w2 ⟨⟨B2,lc2,rfl,Kx⟩,D⟩;have Z0:=hid (Y0.out.up D hg);have Z1:=hid (Y1.out.up D Lc);have Lf:=hid (y.out.trans (D.mono y.out.size));have Ns:=hid (show RdE w2 w2.heap.size B2 [⟨16,1⟩] from Rd.of_own Kx);clear D Kx q3 F;go_wp2_with fail;go_loopg [6,7] (N.length+2) (λgk vx vd wr=>∃(d2:Dv) (A2 J:Option Addr) (R L:Nat),Hid (CoAt w wr n d2 A2 R J L)/\((vd=.bool false/\Hid (CoGo w wr n VV ZZ rr d2 A2 R J L gk vx))\/(vd=.bool true/\Hid (CoEnd w wr n rr d2 A2 R J L))))
    case atStart =>
     refine⟨⟨im,dw,lf,false⟩,A,DA,c,dc,hid ⟨?_,Z1.out,hc,HN.out,Lf.out⟩,.inl ⟨rfl,hid ⟨[⟨16,1⟩],N,B2,lc2,rfl,by omega,Ny.out,HV.out.symm,Ns.out,.inl ⟨HI.out.below Lf.out,HQ.out.below Lf.out⟩⟩⟩⟩;dsimp only;rw[HM.out];exact Z0.out
    obtain⟨d2,A2,J,R,L,Lr,⟨rfl,Mx⟩|⟨rfl,Nm⟩⟩:=hrel
    .obtain ⟨U,K,O,Q⟩:=d2;obtain⟨E,C,B3,lc3,rfl,Np,f,Lu,Ms,Mg⟩:=Mx.out;have Ml:=hid f;have P:=hid Lu;obtain⟨ab0,ab1,ac,al,M⟩:=Lr.out;have A0:=hid ab0;have A1:=hid ab1;have Ll:=hid M;have Nz:=(ab _).1 f.size;have Nd:=f.err;have Lg:=hid (xB A2 J B3 U K O Q n R K.length L E E.length lc3 wr al rfl ac f.ok rfl f.small.pos f.small.le (f.small.ent f.size) f.w24 f.small.in_ (f.small.eok (by omega)) (Mg.rd M.size).1 (Mg.rd M.size).2 Ms);unfold lX at Lg;obtain⟨m1,m2,m3⟩:=f.made;have Lz:=hid m1;have Mz:=hid m2;have G:=hid m3;have Y:=hid (λ(h:C=[])=>(h ▸ f:RnAt n VV ZZ ⟨U,K,O,Q⟩ E []).done);have Eq:=hid (λE2 outs3 (h:C=E2::outs3)=>(h ▸ f:RnAt n VV ZZ ⟨U,K,O,Q⟩ E (E2::outs3)).step);unfold CA at P;obtain⟨d3,Mw⟩:∃d3,atM ⟨U,K,O,Q⟩ E=d3:=⟨_,rfl⟩;rw[Mw] at Lg Lz Mz G Y Eq P;rw[G.out] at Lg;have Nq:=A0.out.lt;have Nn:=A1.out.lt;have Lw:=hid Np;dsimp only at A0;clear f Lu Ms Mg ab0 ab1 ac al M Nd m1 m2 m3 Mx Lr Mw Np Nz;obtain⟨q,l,z,dn3⟩:=d3;go_wp2_with (first
      | ((with_reducible refine aQ 79 (.tmp 1) ?_);refine ldD A0.out ?_))
     refine Lg.out.mono ?_;rintro e w3 ⟨⟨_,rfl,A3,c3,S,X,rfl,Mm,Nj,Mr⟩,Ky⟩;have Mb:=hid (am Nj (show w.heap.size+2<=wr.heap.size by omega));have Mp:=hid (am Mr (show w.heap.size+2<=wr.heap.size by omega));have Lh:=hid (Ll.out.trans (Ky.mono Ll.out.size));have C0:=hid (A0.out.up Ky Nq);have C1:=hid (A1.out.up Ky Nn);have Nt:=Ky.size;clear Nj Mr Ky Lg;have X8:=hid (Bx.new w3 79 #[.slice none 0 0,.slice none 0 0,.int .i64 0,.bool false]);have Mq:w.heap.size≠w3.heap.size:=by omega
     have Lp:=hid ((kqk w3.heap.size w3).alloc (kqa _) (.cells #[.slice none 0 0,.slice none 0 0,.int .i64 0,.bool false] 79));dsimp only;cases dn3 with
     | true =>
      have H:Hid (rr=(⟨q,l,z,true⟩,60)):=hid (by rw[<-P.out,if_pos rfl]);clear P Y Eq Ml Lw;go_wp2_with (first
       | (((with_reducible refine ar 79 (.tmp 8) _ ?_);refine stD X8.out ?_;intro w4 U8 Ln);have b:=hid (Ln.out.below Lp.out (kqa _));have C04:=hid (C0.out.up b.out C0.out.lt);have C14:=hid (C1.out.up b.out C1.out.lt);have Li:=hid (aa Mb.out b.out (kqa _));have Ls:=hid (aa Mp.out b.out (kqa _));have Lk:=hid (Lh.out.trans (b.out.mono Lh.out.size)))
       | ((with_reducible refine aQ 79 (.tmp 8) ?_);refine ldD U8.out ?_)
       | (((with_reducible refine ar 79 (.tmp 1) _ ?_);refine stD C04.out ?_;intro w5 U0 t);obtain⟨s0,s1,s2,s3,sf0,sf1,sf2,sf3,slt⟩:=U0.out.c4)
       | ((with_reducible refine aQ 79 (.tmp 1) ?_);refine ldD U0.out ?_)
       | ((with_reducible refine ar 79 (.tmp 2) _ ?_);refine stD (t.out.bx C14.out Kz) ?_;intro w9 x g))
      refine kqq (v:=.tuple #[.agg #[.slice A3 n c3,.slice S l.length X,.int .i64 z,.bool true],.int .i64 60]) (bi results37 _ x.out rfl rfl rfl) rfl ⟨⟨_,by rw[H.out],by
       rw[H.out];unfold lX;dsimp only;rw[show q.length=n from G.out];exact⟨A3,c3,S,X,rfl,Mm,am (aq (aq Li.out t.out (by omega)) g.out (by omega)) (by omega),am (aq (aq Ls.out t.out (by omega)) g.out (by omega)) (by omega)⟩⟩,g.out.below (t.out.below Lk.out (kqa _)) (by omega)⟩
     | false =>
      have H:Hid (rr=CA C ⟨q,l,z,false⟩):=hid (by rw[<-P.out,if_neg (by simp)]);have a:=hid (λW (h:RdW W W.heap.size A3 q) (h2:RdQ W W.heap.size S l)=>rB A3 S q l z false n c3 l.length X W G.out rfl (by omega) (by have:=(qd Lz.out).1;dsimp only at this;omega) h h2);unfold GH at a;rw[kq Lz.out] at a;have Lx:(dvV ⟨q,l,z,false⟩).length=n:=(kH _).trans G.out;dsimp only at a;rw[show q.length=n from G.out] at a;have Lb:=hid (λB2 R W (Mi:n<=R) (h:RdW W W.heap.size B2 (dvV ⟨q,l,z,false⟩))=>DJ B2 (dvV ⟨q,l,z,false⟩) R n W Lx hn2 Mi h Mz.out.v);unfold IB at Lb;clear P Lx;go_wp2_with (first
       | (((with_reducible refine ar 79 (.tmp 8) _ ?_);refine stD X8.out ?_;intro w4 U8 Ln);have b:=hid (Ln.out.below Lp.out (kqa _));have C04:=hid (C0.out.up b.out C0.out.lt);have C14:=hid (C1.out.up b.out C1.out.lt);have Li:=hid (aa Mb.out b.out (kqa _));have Ls:=hid (aa Mp.out b.out (kqa _));have Lk:=hid (Lh.out.trans (b.out.mono Lh.out.size)))
       | ((with_reducible refine aQ 79 (.tmp 8) ?_);refine ldD U8.out ?_)
       | (((with_reducible refine ar 79 (.tmp 1) _ ?_);refine stD C04.out ?_;intro w5 U0 t);obtain⟨s0,s1,s2,s3,sf0,sf1,sf2,sf3,slt⟩:=U0.out.c4)
       | ((with_reducible refine aQ 79 (.tmp 1) ?_);refine ldD U0.out ?_))
      have Ma:=hid (aq Li.out t.out (show w.heap.size<w.heap.size+2 by omega));have Mj:=hid (aq Ls.out t.out (show w.heap.size<w.heap.size+2 by omega));have C15:=hid (t.out.bx C14.out Kz);have Mc:=hid (t.out.below Lk.out (kqa _));have Nl:=U0.out.lt;have Lv:=C15.out.lt;clear s0 s1 s2 s3 sf0 sf1 sf2 sf3 slt U8 Ln b t Li Ls C14 C04 Lk Mb Mp C0 C1 Lh Mq Nt;refine (a.out w5 (Rd.of_own Ma.out) (Rd.of_own Mj.out)).mono ?_;rintro e w6 ⟨⟨Ni,-⟩,T⟩;obtain⟨gv6,cv6,rfl,I⟩:=Ni (by trivial);have Lt:=cK I;have Na:=hid (show RdW w6 w6.heap.size _ _ from Rd.of_own I);have My:=hid (aa Ma.out T (kqa _));have Nc:=hid (aa Mj.out T (kqa _));have D06:=hid (U0.out.up T Nl);have D16:=hid (C15.out.up T Lv);have Lo:=hid (Mc.out.trans (T.mono Mc.out.size));have Mv:=D06.out.lt;have Ly:=D16.out.lt;clear Ni I T a Ma Mj U0 C15 Mc Nl Lv;have Ld:=Lw.out;cases C with
      | nil =>
       have V:=Y.out (by trivial) (by trivial);rw[V] at Lb;clear V Y Eq Ml;go_wp2_with fail;refine (Lb.out _ _ w6 Lt Na.out).mono ?_;rintro e w7 ⟨⟨A7,c7,rfl,-⟩,i⟩;have Mf:=hid (aa My.out i (kqa _));have Mh:=hid (aa Nc.out i (kqa _));have D07:=hid (D06.out.up i Mv);have D17:=hid (D16.out.up i Ly);have Mo:=hid (Lo.out.trans (i.mono Lo.out.size));clear i;go_wp2;go_roundg 1
       case rel=>exact⟨⟨q,l,z,false⟩,A3,S,c3,X,hid ⟨D07.out,D17.out,Mm,G.out,Mo.out⟩,.inr ⟨rfl,hid ⟨H.out.symm,Mf.out,Mh.out⟩⟩⟩
       case measure=>simp only[kxf] at Ld;omega
      | cons E2 outs3 =>
       have V:=Eq.out E2 outs3 (by trivial) (by trivial);rw[V.1] at Lb;have Nh:=hid V.2;clear V Y Eq Ml;go_wp2_with fail;refine (Lb.out _ _ w6 Lt Na.out).mono ?_;rintro e w7 ⟨⟨A7,c7,rfl,Kw⟩,i⟩;have Nw:=hid (show RdE w7 w7.heap.size A7 E2 from Rd.of_own Kw);have Mf:=hid (aa My.out i (kqa _));have Mh:=hid (aa Nc.out i (kqa _));have D07:=hid (D06.out.up i Mv);have D17:=hid (D16.out.up i Ly);have Mo:=hid (Lo.out.trans (i.mono Lo.out.size));clear i Kw;go_wp2;go_roundg (outs3.length+2)
       case rel=>exact⟨⟨q,l,z,false⟩,A3,S,c3,X,hid ⟨D07.out,D17.out,Mm,G.out,Mo.out⟩,.inl ⟨rfl,hid ⟨E2,outs3,A7,c7,rfl,by omega,Nh.out,H.out.symm,Nw.out,.inr ⟨Mf.out,Mh.out⟩⟩⟩⟩
       case measure=>simp only[kq2] at Ld;omega
    obtain⟨U,K,O,Q⟩:=d2;obtain⟨ab0,ab1,ac,al,M⟩:=Lr.out;obtain⟨Le,ho,hq⟩:=Nm.out;have A0:=hid ab0;have A1:=hid ab1;have Ll:=hid M;have HO:=hid ho;have Nx:=hid hq;have H:=hid Le;dsimp only at A0;have Lp:=hid al;clear ab0 ab1 al M Le ho hq Lr Nm;go_wp2_with (first
     | ((with_reducible refine aQ 79 (.tmp 1) ?_);refine ldD A0.out ?_)
     | ((with_reducible refine ar 79 (.tmp 2) _ ?_);refine stD A1.out ?_;intro w9 x g))
    refine kqq (v:=.tuple #[.agg #[.slice A2 n R,.slice J K.length L,.int .i64 O,.bool Q],.int .i64 0]) (bi results37 _ x.out rfl rfl rfl) rfl ⟨⟨_,by rw[<-H.out],by
     rw[<-H.out];unfold lX;dsimp only;rw[show U.length=n from Lp.out];exact⟨A2,R,J,L,rfl,ac,am (aq HO.out g.out (by omega)) (by omega),am (aq Nx.out g.out (by omega)) (by omega)⟩⟩,g.out.below Ll.out (by omega)⟩
   have Nv:=hid o;rw[if_neg o] at F;have HV:Hid (coR ⟨im,dw,lf,false⟩=(dvZ,bT (dvV ⟨im,dw,lf,false⟩))):=hid (by unfold coR;rw[if_pos Lj.out,if_neg (by simp),if_neg o]);obtain⟨r,Nk⟩:∃r,bT (dvV ⟨im,dw,lf,false⟩)=r:=⟨_,rfl⟩;rw[Nk] at F HV o;rw[HV.out];have e1:(r != 0)=true:=by rw[kqv];exact o
   clear Nk o Nv;go_enter func37,ntmps37;go_wp2_with (first
    | ((with_reducible refine aQ 79 (.tmp 1) ?_);refine ldD X0.out ?_))
   clear Lq;refine (a.out W0 (HI.out.up k.out j) (HQ.out.up k.out j)).mono ?_;rintro e w1 ⟨⟨s,-⟩,d⟩;obtain⟨gv,cv,rfl,p⟩:=s (by trivial);have Y0:=hid (X0.out.up d Md);have Y1:=hid (X1.out.up d Lm);have y:=hid (k.out.trans (d.mono j));have Me:=cK p;have Mn:=hid (show RdW w1 w1.heap.size _ _ from Rd.of_own p);obtain⟨-,-,-,q3,-,-,-,-,hg⟩:=Y0.out.c4;have Lc:=Y1.out.lt;clear s d a p;go_wp2_with fail;refine (F.out _ _ w1 Me Mn.out).mono ?_;rintro e w2 ⟨⟨B2,lc2,rfl,-⟩,D⟩;have Z1:=hid (Y1.out.up D Lc);have Lf:=hid (y.out.trans (D.mono y.out.size));clear D q3 F;go_wp2_with (first
    | ((with_reducible refine ar 79 (.tmp 2) _ ?_);refine stD Z1.out ?_;intro w9 x g))
   refine kqq (v:=.tuple #[.agg #[.slice none 0 0,.slice none 0 0,.int .i64 0,.bool false],.int .i64 r]) (bi results37 _ x.out rfl rfl rfl) rfl ⟨⟨_,rfl,Do _ _⟩,g.out.below Lf.out (by omega)⟩
 have Lj:=hid (Dl h0);have HV:Hid (coR ⟨im,dw,lf,dn⟩=(dvZ,8)):=hid (by unfold coR;rw[if_neg h0]);rw[Lj.out] at a;rw[HV.out];clear h0;go_enter func37,ntmps37;go_wp2_with (first
  | ((with_reducible refine aQ 79 (.tmp 1) ?_);refine ldD X0.out ?_))
 clear Lq;refine (a.out W0 (HI.out.up k.out j) (HQ.out.up k.out j)).mono ?_;rintro e w1 ⟨⟨-,s⟩,d⟩;obtain rfl:=s (by decide);have Y1:=hid (X1.out.up d Lm);have y:=hid (k.out.trans (d.mono j));clear d a;go_wp2_with (first
  | ((with_reducible refine ar 79 (.tmp 2) _ ?_);refine stD Y1.out ?_;intro w9 x g))
 refine kqq (v:=.tuple #[.agg #[.slice none 0 0,.slice none 0 0,.int .i64 0,.bool false],.int .i64 8]) (bi results37 _ x.out rfl rfl rfl) rfl ⟨⟨_,rfl,Do _ _⟩,g.out.below y.out (by omega)⟩
end Go.Proofs.YtpcajamacpbjcaaGreat
