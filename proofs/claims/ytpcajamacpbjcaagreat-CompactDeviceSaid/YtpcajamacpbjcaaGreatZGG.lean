/- Putting entries into a device: what the closure of replay.Put does. -/
import Derived.Test.YtpcajamacpbjcaaGreatZGC
import Derived.Test.YtpcajamacpbjcaaGreatZGD
import Derived.Test.YtpcajamacpbjcaaGreatZGF
import Derived.Test.YtpcajamacpbjcaaGreatZGE
set_option maxHeartbeats 16000000
set_option maxRecDepth 100000
set_option linter.all false
namespace Go.Proofs.YtpcajamacpbjcaaGreat
open Lib (hid)
open Go.RowKit Go.Lib
variable {d:Dv}{l:List En}{ad:List Int}{a b n:Nat}{P:Program}{w w':World}
open Go.Proofs.Tryz
def Two (w w':World) (a b:Nat):Prop:=∃w1,w.grownBy w1 (some a)/\w1.grownBy w' (some b)
theorem Two.own{H sz:Nat}{e:TypeId}{v:Value}{xs:List Value}(h:Two w w' a b)(ho:w.ownsRow H e sz v n xs)(ha:a<H)(hb:b<H):w'.ownsRow H e sz v n xs:=by obtain⟨w1,d,f⟩:=h;have c:=bC ho d (.inr (bH ho ha).symm);exact bC c f (.inr (bH c hb).symm)
theorem Two.below{w0:World}{B:Nat}(h:Two w w' a b)(hb:Below B w0 w)(hs:B<=w.heap.size)(ha:B<=a)(hb2:B<=b):Below B w0 w':=by obtain⟨g,d,e⟩:=h;have f:Below B w0 g:=hb.grown d hs (λj c=>by cases c;exact ha);exact f.grown e (kz3 hs d.size) (λj c=>by cases c;exact hb2)
theorem Two.bx{g:Nat}{t:TypeId}{cs:Array Value}(h:Two w w' a b)(hb:Bx w g t cs)(h1:g≠a)(h2:g≠b):Bx w' g t cs:=by obtain⟨w1,c,d⟩:=h;exact (hb.grown c λe=>h1 (by injection e)).grown d λe=>h2 (by injection e)
theorem r6{op:Oper}{a:Act}{K:Act->World->Prop}{Q:Exit->Act->World->Prop}(ty:TypeId)(x y:Operand)(ho:op.op=.store ty x y)(g:Nat)(t:TypeId)(cs0 cs:Array Value)(hx:a.eval x=.pointer (some ⟨g,0,none⟩))(hy:a.eval y=.agg cs)(hb:Bx w g t cs0)(hs:cs.size=cs0.size)(hi:(P.info? ty).map (·.size)=some cs.size)(h1:cs.all (·.oneCell')=true)(h:∀W',Bx W' g t cs->iD w W' g->K (a.put op.dst undef) W'):op.wp P a w K Q:=by
 have b:w.there g 0 cs.size:=by rw[hs];exact jK hb
 exact wp_store_mid ty x y ho g 0 cs hx hy b hi h1 (h _ (fF hb hs) ⟨cY _ _ _,λg' c=>dD c _ _ _,λB d=>a9 d _ (kqk _ _)⟩)
theorem qV{o:Oper}{a:Act}(ty:TypeId)(x:Operand)(ho:o.op=.load ty x)(g:Nat)(hx:a.eval x=.pointer (some ⟨g,0,none⟩))(t:TypeId)(cs:Array Value)(d:TypeDesc)(hb:Bx w g t cs)(hu:P.underlying ty=some d)(hd:(match d with | .struct _ | .array _ _=>true | _=>false)=true)(hi:(P.info? ty).map (·.size)=some cs.size):(execOp a.eval o).run P w=.ok (.value (.agg cs)) w:=by have b:=run_loadVar_row w g t ty cs (0,0) d hb hu hd hi;unfold execOp;simp only[ho,hx,Instr.loadAt,Instr.sureAddr,Sem.run_bind,Sem.run_pure,Result.andThen_ok,b]
def Ie (B H:Nat) (w:World) (A:Option Addr) (n c:Nat) (DA:Option Addr) (m dc:Nat) (im:List Nat) (dw:List Dw):Prop:=
 (RdW w B A im/\RdQ w B DA dw)\/(w.ownsRow H 53 1 (.slice A n c) n (im.flatMap ag)/\w.ownsRow H 92 3 (.slice DA m dc) m (dw.flatMap Dw.cells))
section
variable {B H:Nat} {w w':World} {A DA:Option Addr} {n c m dc:Nat} {im:List Nat} {dw:List Dw}
theorem Ie.rd(h:Ie B H w A n c DA m dc im dw)(hB:B<=w.heap.size):RdW w w.heap.size A im/\RdQ w w.heap.size DA dw:=by
 rcases h with h|h
 .exact ⟨Rd.more h.1 hB,Rd.more h.2 hB⟩
 exact⟨Rd.of_own h.1,Rd.of_own h.2⟩
theorem Ie.up(h:Ie B H w A n c DA m dc im dw)(hb:Below w.heap.size w w')(hB:B<=w.heap.size):Ie B H w' A n c DA m dc im dw:=by
 rcases h with h|h
 .exact .inl ⟨Rd.below h.1 (hb.mono hB),Rd.below h.2 (hb.mono hB)⟩
 exact .inr ⟨ai h.1 hb (kqa _),ai h.2 hb (kqa _)⟩
end
theorem BC(gE gD:Nat)(old:Array Value)(A DA:Option Addr)(lf:Int)(dn:Bool)(n c m dc:Nat)(w:World)(hs:old.size=4)(he:Bx w gE 27 #[.int .i64 0])(hd:Bx w gD 79 old)(hne:gE≠gD):
 Calls prog 179 #[.agg #[.slice A n c,.slice DA m dc,.int .i64 lf,.bool dn],.int .i64 0,.pointer (some ⟨gE,0,none⟩),.pointer (some ⟨gD,0,none⟩)] w λe w'=>e=.returned (.tuple #[])/\Bx w' gE 27 #[.int .i64 0]/\Bx w' gD 79 #[.slice A n c,.slice DA m dc,.int .i64 lf,.bool dn]/\Two w w' gD gE:=by
 have f:=hid (he.alloc (.cells #[.slice A n c,.slice DA m dc,.int .i64 lf,.bool dn] 79));have j:=hid (hd.alloc (.cells #[.slice A n c,.slice DA m dc,.int .i64 lf,.bool dn] 79));have k:=hid (Bx.new w 79 #[.slice A n c,.slice DA m dc,.int .i64 lf,.bool dn]);have r:=hid (show w.grownBy (w.alloc (.cells #[.slice A n c,.slice DA m dc,.int .i64 lf,.bool dn] 79)) (some gD) from dQ ((kqk w.heap.size w).alloc (kqa _) _));obtain⟨l,i⟩:=xq (w.alloc (.cells #[.slice A n c,.slice DA m dc,.int .i64 lf,.bool dn] 79));rw[i] at f j k r;have hgd:gD<w.heap.size:=hd.lt;have hge:gE<w.heap.size:=he.lt;have hnd:w.heap.size≠gD:=by omega
 have hne2:w.heap.size≠gE:=by omega
 have d:gD≠gE:=λh=>hne h.symm;have t:=hid hs;obtain⟨e0,ef,-⟩:=f.out.c1;clear he hd hs;go_enter func179,ntmps179;go_wp2_with (first
  | ((with_reducible refine aN 79 (.tmp 4) ?_);refine ldD k.out ?_)
  | (((with_reducible refine ar 79 (.tmp 3) _ ?_);refine am rfl _ _ _ rfl gD 79 old #[.slice A n c,.slice DA m dc,.int .i64 lf,.bool dn] (by rfl) (by rfl) j.out t.out.symm jZ (by simp[Value.oneCell']) ?_;intro g a b;have s:=hid a;have o:=hid b;clear a b);have q:=hid (o.out.bx f.out hne);obtain⟨u0,uf,-⟩:=q.out.c1))
 go_end0;refine⟨rfl,q.out.set_ 0 (.int .i64 0),s.out.far (p:=⟨gE,0,none⟩) d _,g,nh r.out o.out.grown,eF (vs:=[.int .i64 0]) (dQ (kqk g.heap.size g))⟩
open Go.RowKit
theorem EV :∀ {l:List Dw} {b:Int},iM n l b=true -> -1<=b->(l.length:Int)+b<(n:Int)\/l=[]:=by
 intro l
 induction l with
 | nil=>intro b _ _;exact .inr rfl
 | cons e l ih =>
  intro b h hb;simp only[iM,kqt,kzc] at h;rcases ih h.2.2 (by omega) with a|a
  .left;rw[kq0];omega
  left;subst a;simp only[kq0,kxb];omega
theorem pp(h:eY d=true):d.dw.length<=2048/\256<=d.im.length/\d.im.length<=2048:=by
 have a:=(bM d).1 h;have hs:=(aa _).1 a.1;refine⟨?_,by omega,by omega⟩;rcases EV a.2.2.2.2 (by omega) with b|b
 .omega
 rw[b];simp
theorem zm{k:Nat}(hk:k<l.length):ou d (l.take (k+1))=dvS (ou d (l.take k)) l[k].a l[k].v:=by unfold ou;rw[kqp hk,List.foldl_append];rfl
theorem xi{cs:Array Value}(h:lU cs ad n):cs.all (·.oneCell')=true:=by rw[kk8];intro i b;have a:=h.2 i (by have:=h.1;omega);rw[kjl b] at a;injection a with a;rw[a];rfl
theorem GM:(prog.info? 156).map (·.size)=some 256:=by kernel_rfl
theorem Io{x:Int}:∀ {n:Nat},aJ ad x n=true->∃j,j<n/\(ad[j]?.getD 0)/8=x/8:=by
 intro n
 induction n with
 | zero=>intro h;cases h
 | succ n ih =>
  intro h;unfold aJ at h;rw[kxy] at h;rcases h with h|h
  .obtain ⟨j,h1,a⟩:=ih h;exact⟨j,by omega,a⟩
  exact⟨n,by omega,by rwa [kqw] at h⟩
structure RpSt (w:World) (gE n:Nat) (d:Dv) (A:Option Addr) (c:Nat) (DA:Option Addr) (dc:Nat) (wr:World):Prop where
 be:Bx wr gE 27 #[.int .i64 0]
 bd:Bx wr w.heap.size 79 #[.slice A n c,.slice DA d.dw.length dc,.int .i64 d.left,.bool d.down]
 br:Bx wr (w.heap.size+1) 79 #[.slice none 0 0,.slice none 0 0,.int .i64 0,.bool false]
 at_:Ie w.heap.size (gE+1) wr A n c DA d.dw.length dc d.im d.dw
 len:d.im.length=n
 cap:n<=c
 ok:eY d=true
 below:Below w.heap.size w wr
section
variable {w wr wr':World} {gE n c dc:Nat} {d:Dv} {A DA:Option Addr}
theorem RpSt.up(h:RpSt w gE n d A c DA dc wr)(hb:Below wr.heap.size wr wr'):RpSt w gE n d A c DA dc wr':=
 ⟨h.be.up hb h.be.lt,h.bd.up hb h.bd.lt,h.br.up hb h.br.lt,h.at_.up hb h.below.size,h.len,h.cap,h.ok,h.below.trans (hb.mono h.below.size)⟩
theorem RpSt.alloc(h:RpSt w gE n d A c DA dc wr)(o:Obj):RpSt w gE n d A c DA dc (wr.alloc o):=h.up ((kqk _ _).alloc (kqa _) o)
theorem RpSt.do_(h:RpSt w gE n d A c DA dc wr){w2 w3:World}(hb:Below wr.heap.size wr w2)(hE:w.heap.size+1<gE){d2:Dv}{A2 DA2:Option Addr}{c2 dc2:Nat}(h2:w2.ownsRow wr.heap.size 53 1 (.slice A2 n c2) n (d2.im.flatMap ag))(h3:w2.ownsRow wr.heap.size 92 3 (.slice DA2 d2.dw.length dc2) d2.dw.length (d2.dw.flatMap Dw.cells))(hc:n<=c2)(hl:d2.im.length=n)(hok:eY d2=true)(he:Bx w3 gE 27 #[.int .i64 0])(hd:Bx w3 w.heap.size 79 #[.slice A2 n c2,.slice DA2 d2.dw.length dc2,.int .i64 d2.left,.bool d2.down])(ht:Two w2 w3 w.heap.size gE):RpSt w gE n d2 A2 c2 DA2 dc2 w3:=by have a:=h.up hb;have hg:=h.be.lt;refine⟨he,hd,ht.bx a.br (by omega) (by omega),.inr ⟨ht.own (ao h2 (show gE+1<=wr.heap.size by omega)) (by omega) (by omega),ht.own (ao h3 (show gE+1<=wr.heap.size by omega)) (by omega) (by omega)⟩,hl,hc,hok,ht.below a.below a.below.size (kqa _) (by omega)⟩
end
theorem GG(A DA B:Option Addr)(im:List Nat)(dw:List Dw)(lf:Int)(dn:Bool)(n c m dc:Nat)(l:List En)(ln lc:Nat)(w:World)(hn:im.length=n)(hm:dw.length=m)(hc:n<=c)(hok:eY ⟨im,dw,lf,dn⟩=true)(hln:l.length=ln)(h64:ln<=64)(hin:mg n l)(hv:∀e∈l,e.v<18446744073709551616)(hi:RdW w w.heap.size A im)(hr:RdQ w w.heap.size DA dw)(he:RdE w w.heap.size B l):
 Calls prog 128 #[.agg #[.slice A n c,.slice DA m dc,.int .i64 lf,.bool dn],.slice B ln lc] w λe w'=>(∃u,e=.returned (.tuple #[u,.int .i64 0])/\lx w' w.heap.size (rpP ⟨im,dw,lf,dn⟩ l) u)/\Below w.heap.size w w':=by
 have hb:=pp hok;dsimp only at hb;rw[hn,hm] at hb;obtain⟨hb1,hb2,hb3⟩:=hb;subst hln;have Ko:=hid (λW (h:RdQ W W.heap.size DA dw)=>kx A DA im dw lf dn n c m dc W hn hm (by omega) (by omega) h);rw[jQ hok] at Ko;obtain⟨W0,Lq,x0,x1,Ld,Lm⟩:=nq w A DA lf dn n c m dc;have X0:=hid x0;have X1:=hid x1;have Lf:=hid Ld;have HI:=hid hi;have HQ:=hid hr;have HE:=hid he;have HN:=hid hn;have HM:=hid hm;have Kv:=hid hok;have Kl:=hid hin;have HV:=hid hv;have Lg:w.heap.size<=W0.heap.size:=by omega
 have Lh:w.heap.size<W0.heap.size:=by omega
 have Lj:w.heap.size+1<W0.heap.size:=by omega
 have hgt:decide ((64:Int)<(l.length:Int))=false:=by rw[kqc];omega
 clear hi hr he x0 x1 Ld Lm hn hm hok hin hv;go_enter func128,ntmps128;go_wp2_with (first
  | ((with_reducible refine aN 79 (.tmp 2) ?_);refine ldD X0.out ?_))
 clear Lq;refine (Ko.out W0 (HQ.out.up Lf.out Lg)).mono ?_;rintro e w1 ⟨rfl,Kf⟩;have Ln:=Kf.size;have Ks:w.heap.size+1<w1.heap.size:=by omega
 have ST0:=hid (show RpSt w w1.heap.size n ⟨im,dw,lf,dn⟩ A c DA dc (w1.alloc (.cells #[.int .i64 0] 27)) from by
  have ha:Below w1.heap.size w1 (w1.alloc (.cells #[.int .i64 0] 27)):=(kqk _ _).alloc (kqa _) _;have Kq:=Lf.out.trans ((Kf.trans (ha.mono Ln)).mono Lg);refine⟨Bx.new _ _ _,?_,(X1.out.up Kf Lj).alloc _,.inl ⟨HI.out.below Kq,HQ.out.below Kq⟩,HN.out,hc,Kv.out,Kq⟩;dsimp only;rw[HM.out];exact (X0.out.up Kf Lh).alloc _)
 clear Kf Ko HI HQ X0 X1;go_wp2_with fail;go_loopw [26] (λi wr=>∃k:Nat,k<=l.length/\i=.int .i64 k/\Hid (RpSt w w1.heap.size n ⟨im,dw,lf,dn⟩ A c DA dc wr)) (λi _=>l.length-(RowKit.intOf i).toNat)
 case atStart=>exact⟨0,kqy _,rfl,ST0⟩
 obtain⟨k,hk,rfl,HS⟩:=hrel;by_cases G:k<l.length
 .obtain ⟨b,off,rfl,hb,h0,h1⟩:=RdE.at_ (show RdE wr w.heap.size B l from HE.out.below HS.out.below) G;have hr:=Kl.out _ (kqq G);obtain⟨x,hx⟩:=xq (l[k]);rw[hx] at h0 h1 hr;obtain⟨xa,xv⟩:=x;dsimp only at h0 h1 hr;have hd1:decide (xa<0)=false:=by rw[kqc];omega
  have Le:decide ((n:Int)<=xa)=false:=by rw[kqc];omega
  obtain⟨d0,-,-,-,-,-,-,-,hgd⟩:=HS.out.bd.c4;have ik1:(0:Int)<=(k:Int):=by omega
  have ik2:(k:Int)<(l.length:Int):=by omega
  have Eq:=hid (HS.out.alloc (.cells #[.int .i64 xa,.int .u64 (xv:Int)] 89));clear hx hr;go_wp2;go_roundw
  case rel=>exact⟨k+1,by omega,by go_num,Eq⟩
  case measure=>simp[RowKit.intOf];omega
 obtain rfl:k=l.length:=by omega
 go_wp2_with fail;go_loopw [46] (λi wr=>∃(k:Nat) (d2:Dv) (A2 F:Option Addr) (c2 U:Nat),k<=l.length/\i=.int .i64 k/\Hid (ou ⟨im,dw,lf,dn⟩ (l.take k)=d2)/\Hid (RpSt w w1.heap.size n d2 A2 c2 F U wr)) (λi _=>l.length-(RowKit.intOf i).toNat)
 case atStart=>exact⟨0,_,_,_,_,_,kqy _,rfl,hid rfl,HS⟩
 obtain⟨k,d2,A2,F,c2,U,hk,rfl,y,f⟩:=hrel;by_cases G:k<l.length
 .obtain ⟨b,off,rfl,hb,h0,h1⟩:=RdE.at_ (show RdE wr w.heap.size B l from HE.out.below f.out.below) G;have hr:=Kl.out _ (kqq G);have Km:=HV.out _ (kqq G);have Ki:=hid (zm (d:=⟨im,dw,lf,dn⟩) G);rw[y.out] at Ki;obtain⟨x,hx⟩:=xq (l[k]);rw[hx] at h0 h1 hr Km Ki;obtain⟨xa,xv⟩:=x;dsimp only at h0 h1 hr Km Ki;obtain⟨a,rfl⟩:=kq2 hr.1;have Li:a<n:=by omega
  obtain⟨r,g,z,t⟩:=d2;have ik1:(0:Int)<=(k:Int):=by omega
  have ik2:(k:Int)<(l.length:Int):=by omega
  have Kb:=hid (f.out.alloc (.cells #[.int .i64 (a:Int),.int .u64 (xv:Int)] 89));have HWN:Hid (∃W,W=wr.alloc (.cells #[.int .i64 (a:Int),.int .u64 (xv:Int)] 89)):=hid ⟨_,rfl⟩;have Kh:=(pp f.out.ok).1;dsimp only at Kh;have p:=hid (λW (h:RdW W W.heap.size A2 r) (h2:RdQ W W.heap.size F g)=>zB A2 F r g z t n c2 g.length U a xv W f.out.len rfl f.out.ok Li Km (by omega) h h2);unfold lx at p;have s:=hid (uM (a:=(a:Int)) (v:=xv) f.out.ok (by omega) (by rw[f.out.len];omega));have C:=hid ((congrArg List.length (sR ⟨r,g,z,t⟩ (a:Int) xv)).trans f.out.len);obtain⟨d3,o⟩:∃d3,dvS ⟨r,g,z,t⟩ (a:Int) xv=d3:=⟨_,rfl⟩;rw[o] at p s C Ki;rw[C.out] at p;have hd:=Kb.out.bd;dsimp only at hd;have D:=hid hd;have V:=hid (Kb.out.at_.rd Kb.out.below.size);clear hx hr Km o hd y f;go_wp2_with (first
   | ((with_reducible refine aN 79 (.tmp 2) ?_);refine ldD D.out ?_))
  refine (p.out _ V.out.1 V.out.2).mono ?_;rintro e w2 ⟨⟨_,rfl,A3,c3,H,I,rfl,Kc,Z,Q⟩,q⟩;obtain⟨im3,M,N,J⟩:=d3;have Ka:=hid Z;have Kd:=hid Q;have Kg:=hid q;have P:=hid (D.out.up q D.out.lt);have Y:=hid (Kb.out.be.up q Kb.out.be.lt);have R:=hid (BC w1.heap.size w.heap.size _ A3 H N J n c3 M.length I w2 rfl Y.out P.out (by omega));clear Z Q q;dsimp only at R |-;go_wp2_with fail;refine R.out.mono ?_;rintro e w3 ⟨rfl,T,o,E⟩;have O:=hid (Kb.out.do_ Kg.out Ks Ka.out Kd.out Kc C.out s.out T o E);clear T o E;go_wp2;go_roundw
  case rel=>exact⟨k+1,_,_,_,_,_,by omega,by go_num,Ki,O⟩
  case measure=>simp[RowKit.intOf];omega
 obtain rfl:k=l.length:=by omega
 rw[kzl] at y;have Ky:=hid (λW (h:RdE W W.heap.size B l)=>I2 B l lc l.length W rfl (by omega) h (λk hk=>by rw[dY l k hk];have:=Kl.out _ (kqq hk);omega));have Lr:=vZ;go_wp2_with fail;refine (Ky.out _ (HE.out.up f.out.below f.out.below.size)).mono ?_;rintro e w4 ⟨⟨cs,rfl,La⟩,Kx⟩;have Kk:=hid La;have Kp:=hid (f.out.up Kx);have L0:=hid (Bx.new w4 156 j8);obtain⟨dS,Kt⟩:∃dS,ou ⟨im,dw,lf,dn⟩ l=dS:=⟨_,rfl⟩;rw[Kt] at y;have Lw:=hid Kt;have Le:=y.out;subst Le;clear La Kx Ky Kt y;go_wp2_with (((with_reducible refine ar 156 (.tmp 12) _ ?_);refine am rfl _ _ _ rfl w4.heap.size 156 j8 cs (by rfl) (by rfl) L0.out (by rw[Kk.out.1];rfl) (by rw[Kk.out.1];exact GM) (xi Kk.out) ?_;intro w5 Kw Lc;have L5:=hid Kw;have Ll:=hid (Kp.out.up (Lc.below ((kqk w4.heap.size w4).alloc (kqa _) (.cells j8 156)) (kqa _)));clear Kw Lc));have hgL:w1.heap.size<w4.heap.size:=Kp.out.be.lt;clear Lr L0 Kp f;go_loopw [63] (λi wr=>∃(k:Nat) (d2:Dv) (A2 F:Option Addr) (c2 U:Nat),k<=256/\i=.int .i64 k/\Hid (ld (au l) dS k=d2)/\Hid (RpSt w w1.heap.size n d2 A2 c2 F U wr)/\Hid (Bx wr w4.heap.size 156 cs)) (λi _=>256-(RowKit.intOf i).toNat)
 case atStart=>exact⟨0,_,_,_,_,_,kqy _,rfl,hid rfl,Ll,L5⟩
 obtain⟨k,d2,A2,F,c2,U,hk,rfl,y,f,HL⟩:=hrel;have ik1:(0:Int)<=(k:Int):=by omega
 by_cases G:k<256
 .have ik2:(k:Int)<256:=by omega
  have L:=HL.out.cell k;rw[Kk.out.2 k G] at L;cases hs:aJ (au l) (8*(k:Int)) l.length
  .have Eq:Hid (ld (au l) dS (k+1)=d2):=hid (by unfold ld;rw[aT,hs,if_neg (by simp)];exact y.out);rw[hs] at L;clear hs;go_wp2;go_roundw
   case rel=>exact⟨k+1,_,_,_,_,_,by omega,by go_num,Eq,f,HL⟩
   case measure=>simp[RowKit.intOf];omega
  have Lp:8*k<n:=by obtain⟨j,hj,ej⟩:=Io hs;rw[dY l j hj] at ej;have:=Kl.out _ (kqq hj);have h8:=(aa _).1 ((bM _).1 Kv.out).1;dsimp only at h8;rw[HN.out] at h8;omega
  have Eq:Hid (ld (au l) dS (k+1)=dvF d2 (8*(k:Int))):=hid (by unfold ld;rw[aT,hs,if_pos rfl,y.out]);rw[hs] at L;obtain⟨r,g,z,t⟩:=d2;have Kh:=(pp f.out.ok).1;dsimp only at Kh;have e8:((8*k:Nat):Int)=8*(k:Int):=by omega
  have hw8:IntKind.i64.wrap (8*(k:Int))=8*(k:Int):=kqs _ (by omega);have p:=hid (λW (h:RdW W W.heap.size A2 r) (h2:RdQ W W.heap.size F g)=>Bo A2 F r g z t n c2 g.length U (8*k) W f.out.len rfl f.out.ok Lp (by omega) h h2);unfold lx at p;rw[e8] at p;have s:=hid (Gj (a:=8*(k:Int)) f.out.ok);have C:=hid ((congrArg List.length (Gd ⟨r,g,z,t⟩ (8*(k:Int)))).trans f.out.len);obtain⟨d3,o⟩:∃d3,dvF ⟨r,g,z,t⟩ (8*(k:Int))=d3:=⟨_,rfl⟩;rw[o] at p s C Eq;rw[C.out] at p;have hd:=f.out.bd;dsimp only at hd;have D:=hid hd;have V:=hid (f.out.at_.rd f.out.below.size);clear hs o hd y e8;go_wp2_with (first
   | ((with_reducible refine aN 79 (.tmp 2) ?_);refine ldD D.out ?_))
  refine (p.out _ V.out.1 V.out.2).mono ?_;rintro e w6 ⟨⟨_,rfl,A3,c3,H,I,rfl,Kc,Z,Q⟩,q⟩;obtain⟨im3,M,N,J⟩:=d3;have Ka:=hid Z;have Kd:=hid Q;have Kg:=hid q;have P:=hid (D.out.up q D.out.lt);have Y:=hid (f.out.be.up q f.out.be.lt);have Lu:=hid (HL.out.up q HL.out.lt);have R:=hid (BC w1.heap.size w.heap.size _ A3 H N J n c3 M.length I w6 rfl Y.out P.out (by omega));clear Z Q q p L;dsimp only at R |-;go_wp2_with fail;refine R.out.mono ?_;rintro e w7 ⟨rfl,T,o,E⟩;have O:=hid (f.out.do_ Kg.out Ks Ka.out Kd.out Kc C.out s.out T o E);have Lk:=hid (E.bx Lu.out (by omega) (by omega));clear T o E;go_wp2;go_roundw
  case rel=>exact⟨k+1,_,_,_,_,_,by omega,by go_num,Eq,O,Lk⟩
  case measure=>simp[RowKit.intOf];omega
 obtain rfl:k=256:=by omega
 obtain⟨r,g,z,t⟩:=d2;have Kh:=(pp f.out.ok).1;dsimp only at Kh;have p:=hid (λW (h:RdW W W.heap.size A2 r) (h2:RdQ W W.heap.size F g)=>Ab A2 F r g z t n c2 g.length U W f.out.len rfl f.out.ok (by omega) h h2);unfold lx at p;have s:=hid (Gh f.out.ok);have C:=hid ((y7 ⟨r,g,z,t⟩).trans f.out.len);have HR:Hid (rpP ⟨im,dw,lf,dn⟩ l=dvN ⟨r,g,z,t⟩):=hid (by unfold rpP;rw[Lw.out,y.out]);obtain⟨d3,o⟩:∃d3,dvN ⟨r,g,z,t⟩=d3:=⟨_,rfl⟩;rw[o] at p s C HR;rw[C.out] at p;have hd:=f.out.bd;dsimp only at hd;have D:=hid hd;have V:=hid (f.out.at_.rd f.out.below.size);clear o hd y G hk ik1;go_wp2_with (first
  | ((with_reducible refine aN 79 (.tmp 2) ?_);refine ldD D.out ?_))
 refine (p.out _ V.out.1 V.out.2).mono ?_;rintro e w6 ⟨⟨_,rfl,A3,c3,H,I,rfl,Kc,Z,Q⟩,q⟩;obtain⟨im3,M,N,J⟩:=d3;have Ka:=hid Z;have Kd:=hid Q;have Kg:=hid q;have P:=hid (D.out.up q D.out.lt);have Y:=hid (f.out.be.up q f.out.be.lt);have R:=hid (BC w1.heap.size w.heap.size _ A3 H N J n c3 M.length I w6 rfl Y.out P.out (by omega));clear Z Q q p;dsimp only at R |-;go_wp2_with fail;refine R.out.mono ?_;rintro e w7 ⟨rfl,T,o,E⟩;have O:=hid (f.out.do_ Kg.out Ks Ka.out Kd.out Kc C.out s.out T o E);have Ls:=hid (E.own (ao Ka.out (show w1.heap.size+1<=wr.heap.size from f.out.be.lt)) (by omega) (by omega));have Lo:=hid (E.own (ao Kd.out (show w1.heap.size+1<=wr.heap.size from f.out.be.lt)) (by omega) (by omega));clear T o E;go_wp2_with fail;obtain⟨W7,Lb⟩:=xq w7.drew;have DB:=hid (show Bx w7.drew _ _ _ from O.out.bd);have EB:=hid (show Bx w7.drew _ _ _ from O.out.be);have RB:=hid (show Bx w7.drew _ _ _ from O.out.br);have BB:=hid (O.out.below.drew);have Kz:=hid (show w7.drew.ownsRow _ _ _ _ _ _ from Ls.out);have Kn:=hid (show w7.drew.ownsRow _ _ _ _ _ _ from Lo.out);dsimp only at DB EB RB Kn
 refine kxq (S:=λX:World=>Bx X w.heap.size 79 #[.slice A3 n c3,.slice H M.length I,.int .i64 N,.bool J]/\Bx X w1.heap.size 27 #[.int .i64 0]) (by kernel_rfl) ⟨DB.out,EB.out⟩ (λKe=>?_);rw[Lb] at DB EB RB BB Kz Kn Ke |-;clear Lb;show wpAnyH _ _ _ _ _ 4 #[false,false,false,false] _ _;refine tk 0 (.agg #[.slice A3 n c3,.slice H M.length I,.int .i64 N,.bool J]) ?_ ?_
 .intro X hX;exact qV 79 (.tmp 2) rfl w.heap.size (by rfl) 79 _ _ hX.1 underlying79 (by rfl) jZ
 dsimp only[Act.put,kqh,kqe,kqd,kqb,kqg,kqf];refine tk 1 (.int .i64 0) ?_ ?_
 .intro X hX;obtain⟨e0,-,-⟩:=hX.2.c1;go_simp
 dsimp only[Act.put,kqh,kqe,kqd,kqb,kqg,kqf];refine kz5 (rs:=[2]) (by kernel_rfl) (by simp) ?_;refine AllReadyH.cons rfl (λK hK=>?_) AllReadyH.nil;rw[if_pos (by kernel_rfl)];refine r6 79 (.tmp 4) _ rfl (w.heap.size+1) 79 #[.slice none 0 0,.slice none 0 0,.int .i64 0,.bool false] #[.slice A3 n c3,.slice H M.length I,.int .i64 N,.bool J] (by rfl) (by rfl) RB.out rfl jZ (by simp[Value.oneCell']) ?_;intro W8 Ku Kj;refine hK.out _ _ ⟨Kj.bx DB.out (by omega),Kj.bx EB.out (by omega)⟩ (λLv=>?_);have Lt:=hid Ku;have Kr:=hid Kj;clear hK K Ku Kj Ke;refine tj 3 (.int .i64 0) ?_;dsimp only[Act.put,kqh,kqe,kqd,kqb,kqg,kqf];clear Lv;refine kj4 (by kernel_rfl) ?_ _;go_wp2_with fail;refine kqo (v:=.tuple #[.agg #[.slice A3 n c3,.slice H M.length I,.int .i64 N,.bool J],.int .i64 0]) (bg results128 _ Lt.out rfl rfl rfl) rfl ⟨⟨_,rfl,by
  rw[HR.out];unfold lx;dsimp only;rw[show im3.length=n from C.out];exact⟨A3,c3,H,I,rfl,Kc,ao (ap Kz.out Kr.out (by omega)) (by omega),ao (ap Kn.out Kr.out (by omega)) (by omega)⟩⟩,Kr.out.below BB.out (by omega)⟩
section
variable {w wr wr':World} {gE n c dc:Nat} {d:Dv} {A DA:Option Addr}
theorem RpSt.setE(h:RpSt w gE n d A c DA dc wr)(hE:w.heap.size+1<gE):RpSt w gE n d A c DA dc (wr.setCell ⟨gE,0,none⟩ (.int .i64 0)):=by
 refine⟨h.be.set_ 0 _,h.bd.far (p:=⟨gE,0,none⟩) (show w.heap.size≠gE by omega) _,h.br.far (p:=⟨gE,0,none⟩) (show w.heap.size+1≠gE by omega) _,?_,h.len,h.cap,h.ok,h.below.setCell (p:=⟨gE,0,none⟩) (show w.heap.size<=gE by omega) _⟩;rcases h.at_ with a|a
 .exact .inl ⟨a.1.set_ (p:=⟨gE,0,none⟩) (show w.heap.size<=gE by omega) _,a.2.set_ (p:=⟨gE,0,none⟩) (show w.heap.size<=gE by omega) _⟩
 exact .inr ⟨av a.1 (p:=⟨gE,0,none⟩) (bH a.1 (kjz gE)).symm _,av a.2 (p:=⟨gE,0,none⟩) (bH a.2 (kjz gE)).symm _⟩
end
theorem vV(B:Option Addr)(l:List En)(ln lc gE n:Nat)(im:List Nat)(dw:List Dw)(lf:Int)(dn:Bool)(A:Option Addr)(c:Nat)(DA:Option Addr)(dc:Nat)(w wr:World)(hs:RpSt w gE n ⟨im,dw,lf,dn⟩ A c DA dc wr)(hln:l.length=ln)(h64:ln<=64)(hin:mg n l)(hv:∀e∈l,e.v<18446744073709551616)(hE:w.heap.size+1<gE)(he:RdE wr wr.heap.size B l):
 Calls prog 127 #[.slice B ln lc,.pointer (some ⟨gE,0,none⟩),.pointer (some ⟨w.heap.size,0,none⟩)] wr λe w'=>e=.returned (.tuple #[])/\∃A2 c2 DA2 dc2,RpSt w gE n (rpP ⟨im,dw,lf,dn⟩ l) A2 c2 DA2 dc2 w'/\w'.ownsRow (gE+1) 53 1 (.slice A2 n c2) n ((rpP ⟨im,dw,lf,dn⟩ l).im.flatMap ag)/\w'.ownsRow (gE+1) 92 3 (.slice DA2 (rpP ⟨im,dw,lf,dn⟩ l).dw.length dc2) (rpP ⟨im,dw,lf,dn⟩ l).dw.length ((rpP ⟨im,dw,lf,dn⟩ l).dw.flatMap Dw.cells):=by
 have x:=hid hs;have f:=hid (GG A DA B im dw lf dn n c dw.length dc l ln lc wr hs.len rfl hs.cap hs.ok hln h64 hin hv (hs.at_.rd hs.below.size).1 (hs.at_.rd hs.below.size).2 he);unfold lx at f;have q:=hid (ph hs.ok (l:=l) (by rw[hs.len];exact hin));have H:=hid ((lD ⟨im,dw,lf,dn⟩ l).trans hs.len);obtain⟨z,g⟩:∃z,rpP ⟨im,dw,lf,dn⟩ l=z:=⟨_,rfl⟩;rw[g] at f q H |-;rw[H.out] at f;obtain⟨Q,P,hge⟩:=hs.be.c1;have J:=hs.bd;dsimp only at J;have b:=hid J;clear hs hln hin hv he g J;go_enter func127,ntmps127;go_wp2_with (first
  | ((with_reducible refine aN 79 (.tmp 2) ?_);refine ldD b.out ?_))
 refine f.out.mono ?_;rintro e T ⟨⟨_,rfl,K,M,s,h,rfl,F,t,i⟩,a⟩;obtain⟨im3,y,C,G⟩:=z;have o:=hid t;have r:=hid i;have E:=hid a;have R:=hid (b.out.up a b.out.lt);have S:=hid (x.out.be.up a x.out.be.lt);have I:gE≠w.heap.size:=by omega
 have m:w.heap.size≠gE:=by omega
 clear t i a f Q P;dsimp only;go_wp2_with (((with_reducible refine ar 79 (.tmp 2) _ ?_);refine am rfl _ _ _ rfl w.heap.size 79 _ #[.slice K n M,.slice s y.length h,.int .i64 C,.bool G] (by rfl) (by rfl) R.out rfl jZ (by simp[Value.oneCell']) ?_;intro u j k;have O:=hid j;have L:=hid k;clear j k;have N:=hid (L.out.bx S.out I);obtain⟨u0,uf,-⟩:=N.out.c1));go_end0;have D:Two T (u.setCell ⟨gE,0,none⟩ (.int .i64 0)) w.heap.size gE:=⟨u,L.out.grown,eF (vs:=[.int .i64 0]) (dQ (kqk u.heap.size u))⟩;have d:gE+1<=wr.heap.size:=x.out.be.lt;exact⟨rfl,K,M,s,h,x.out.do_ E.out hE o.out r.out F H.out q.out (N.out.set_ 0 (.int .i64 0)) (O.out.far (p:=⟨gE,0,none⟩) m _) D,D.own (ao o.out d) (by omega) (by omega),D.own (ao r.out d) (by omega) (by omega)⟩
theorem mrg{F P:Nat->Nat->World->Prop}{Q:Prop}(h1:(∀g c w,F g c w->P g c w)->Q)(h2:∀g c w,F g c w->P g c w):Q:=h1 h2
theorem FB(ho:∀e∈l,e.ok):∀v∈cE l,v<18446744073709551616:=vz ho
theorem xd(A DA B:Option Addr)(im:List Nat)(dw:List Dw)(lf:Int)(dn:Bool)(n c m dc:Nat)(l:List En)(ln lc:Nat)(w:World)(hn:im.length=n)(hm:dw.length=m)(hc:n<=c)(hok:eY ⟨im,dw,lf,dn⟩=true)(hln:l.length=ln)(h0:0<ln)(h32:ln<=32)(hent:ey (au l) (n:Int)=0)(h24:wd (dvV ⟨im,dw,lf,dn⟩) 24=0)(hin:mg n l)(ho:∀e∈l,e.ok)(hi:RdW w w.heap.size A im)(hr:RdQ w w.heap.size DA dw)(o:RdE w w.heap.size B l):
 Calls prog 82 #[.agg #[.slice A n c,.slice DA m dc,.int .i64 lf,.bool dn],.slice B ln lc] w λe w'=>(∃u,e=.returned (.tuple #[u,.int .i64 0])/\lx w' w.heap.size (atM ⟨im,dw,lf,dn⟩ l) u)/\Below w.heap.size w w':=by
 have hb:=pp hok;dsimp only at hb;rw[hn,hm] at hb;obtain⟨hb1,hb2,hb3⟩:=hb;have Lb:l≠[]:=λe=>by rw[e] at hln;simp at hln;omega
 have Ks:=hid (pO (d:=⟨im,dw,lf,dn⟩) Lb);have I:=hid (λW (h:RdW W W.heap.size A im) (h2:RdQ W W.heap.size DA dw)=>pU A DA im dw lf dn n c m dc W hn hm (by omega) (by omega) h h2);unfold ES at I;rw[jQ hok] at I;have Mm:(dvV ⟨im,dw,lf,dn⟩).length=n:=(j9 _).trans hn;dsimp only at I;rw[hn] at I;have Q:=hid (λW (h:RdE W W.heap.size B l)=>pG B l lc ln (n:Int) W hln (by omega) h ho);unfold CK at Q;rw[hent,show d6 l (n:Int)=cE l by simp[d6,hent]] at Q;have Kd:(cE l).length=2*ln:=by rw[ij,hln]
 rw[Kd] at Q;have Kq:=hid Kd;have Md:=hid (λW (h:RdE W W.heap.size B l)=>DD B l lc ln (n:Int) W hln h0 h32 hent h ho);have Nr:=hid (λB2 c2 W (h:RdW W W.heap.size B2 (cE l))=>vH B2 (cE l) c2 (2*ln) 32 W Kd (by omega) (by omega) h);have Mt:=hid (λB2 c2 v W (h:RdW W W.heap.size B2 [v])=>vH B2 [v] c2 1 24 W rfl (by omega) (by omega) h);have My:=hid (Gu (l:=l) (by omega));have Nb:=hid (FB ho);have E:=hid (λ(W:World) (h:RdW W W.heap.size A im)=>nQ A im c n W.heap.size W hn (by omega) (by omega) h (kqa _));unfold xB at E;rw[hn] at E;have Kf:=hid (λW (h:RdQ W W.heap.size DA dw)=>uA DA dw dc m W hm (by omega) h);unfold OwnQ at Kf;rw[hm] at Kf;obtain⟨W0,Nk,x0,x1,Mv,Nf⟩:=nq w A DA lf dn n c m dc;have X0:=hid x0;have X1:=hid x1;have Ki:=hid Mv;have HI:=hid hi;have HQ:=hid hr;have HE:=hid o;have HN:=hid hn;have HM:=hid hm;have Lx:=hid hok;have Nm:=hid hin;have Nv:=hid h24;have Ns:=hid Mm;have Nd:=hid hln;have Nq:=hid (λe o=>(ho e o).2.2);have Lt:w.heap.size<=W0.heap.size:=by omega
 have Mz:w.heap.size<W0.heap.size:=by omega
 have Na:w.heap.size+1<W0.heap.size:=by omega
 have hl0:((ln:Int)==0)=false:=by rw[kqi];omega
 clear hi hr o x0 x1 Mv Nf hn hm hok hin h24 Mm hln ho hent Lb Kd;go_enter func82,ntmps82;go_wp2_with (first
  | ((with_reducible refine aN 79 (.tmp 2) ?_);refine ldD X0.out ?_))
 clear Nk;refine (I.out W0 (HI.out.up Ki.out Lt) (HQ.out.up Ki.out Lt)).mono ?_;rintro e b ⟨⟨Mn,-⟩,U⟩;obtain⟨gv,cv,rfl,Z⟩:=Mn (by trivial);have Nj:=U.size;have G:w.heap.size+1<b.heap.size:=by omega
 have J:=hid (show RpSt w b.heap.size n ⟨im,dw,lf,dn⟩ A c DA dc (b.alloc (.cells #[.int .i64 0] 27)) from by
  have ha:Below b.heap.size b (b.alloc (.cells #[.int .i64 0] 27)):=(kqk _ _).alloc (kqa _) _;have Lo:=Ki.out.trans ((U.trans (ha.mono Nj)).mono Lt);refine⟨Bx.new _ _ _,?_,(X1.out.up U Na).alloc _,.inl ⟨HI.out.below Lo,HQ.out.below Lo⟩,HN.out,hc,Lx.out,Lo⟩;dsimp only;rw[HM.out];exact (X0.out.up U Mz).alloc _)
 have Mw:=hid (show RdW b b.heap.size (some ⟨gv,0,none⟩) (dvV ⟨im,dw,lf,dn⟩) from Rd.of_own Z);clear Mn Z U I X0 X1;have Lw:=hid (show RdW (b.alloc (.cells #[.int .i64 0] 27)) b.heap.size (some ⟨gv,0,none⟩) (dvV ⟨im,dw,lf,dn⟩) from Mw.out.alloc (kqa _) _);have hz2:(b.alloc (.cells #[.int .i64 0] 27)).heap.size=b.heap.size+1:=kqm _ _;go_wp2_with fail;refine (Q.out _ (HE.out.up J.out.below J.out.below.size)).mono ?_;rintro e w2 ⟨⟨B2,c2,rfl,Lj⟩,R⟩;have ST2:=hid ((J.out.up R).setE G);have Kh:=hid ((Lw.out.below (R.mono (by omega))).set_ (p:=⟨b.heap.size,0,none⟩) (kqa _) (.int .i64 0));have Lk:=hid (ao (av Lj (p:=⟨b.heap.size,0,none⟩) (bH Lj (show b.heap.size<(b.alloc (.cells #[.int .i64 0] 27)).heap.size by omega)).symm (.int .i64 0)) (show b.heap.size+1<=(b.alloc (.cells #[.int .i64 0] 27)).heap.size by omega));obtain⟨W2,Lq⟩:∃W,w2.setCell ⟨b.heap.size,0,none⟩ (.int .i64 0)=W:=⟨_,rfl⟩;rw[Lq] at ST2 Kh Lk;have Lv:Hid (b.heap.size+1<=W2.heap.size):=hid (by rw[<-Lq,kz6];have:=R.size;omega);obtain⟨bV,oV,Kb,hbV,v24⟩:=RdW.at_ (l:=dvV ⟨im,dw,lf,dn⟩) Kh.out (show 24<(dvV ⟨im,dw,lf,dn⟩).length by rw[Ns.out];omega);obtain⟨rfl,rfl⟩:gv=bV/\0=oV:=by injection Kb with Kb;injection Kb with h1 h2 h3;exact⟨h1,h2⟩
 rw[<-cA,Nv.out] at v24;have Ml:=hid (Rd.more Kh.out (show b.heap.size<=W2.heap.size by have:=Lv.out;omega));obtain⟨e0,ef0,Np⟩:=ST2.out.be.c1;obtain⟨f0,ff0,O⟩:=(J.out.be.up R J.out.be.lt).c1;clear R Lj J Mw Lw Kb;go_wp2_with fail;have s:=hid (ST2.out.up ((kqk _ _).drew));have Mx:=hid (show RdW W2.drew W2.drew.heap.size _ _ from Ml.out);have Ls:=hid (show W2.drew.ownsRow _ _ _ _ _ _ from Lk.out);have Lr:Hid (b.heap.size+1<=W2.drew.heap.size):=hid Lv.out;obtain⟨X0,Mu⟩:=xq W2.drew;refine kxq (S:=λ_=>True) (by kernel_rfl) trivial (λhT=>?_);rw[Mu] at s Mx Ls Lr |-;clear Mu Lq e0 ef0 Np f0 ff0 O v24 ST2 Ml Lk Kh;obtain⟨d0,d1,d2,d3,df0,df1,df2,df3,Nl⟩:=s.out.bd.c4;dsimp only at d1;rw[HM.out] at d1;have Ma:=hid s.out.below.size;have Ke:=hid ((s.out.at_.rd Ma.out).1);have Lu:=hid ((s.out.at_.rd Ma.out).2);dsimp only at Ke Lu;show wpAnyH _ _ _ _ _ 10 #[false,false,false,false,false,false,false,false,false,false] _ _;refine tj 0 (.pointer (some ⟨w.heap.size,0,none⟩)) ?_;dsimp only[Act.put,kqh,kqe,kqd,kqb,kqg,kqf];refine tj 3 (.pointer (some ⟨w.heap.size,1,none⟩)) ?_;dsimp only[Act.put,kqh,kqe,kqd,kqb,kqg,kqf];refine' mrg (F:=λg3 c3 w3=>Hid (Below X0.heap.size X0 w3/\w3.ownsRow X0.heap.size 53 1 (.slice (some ⟨g3,0,none⟩) n c3) n (im.flatMap ag))) ?h1 ?h2
 case h1 =>
  intro H;refine kz5 (rs:=[1,4]) (by kernel_rfl) (by simp) ?_;refine AllReadyH.cons rfl (λK f=>?_) (AllReadyH.cons rfl (λK f=>?_) AllReadyH.nil)
  .rw[if_pos (by kernel_rfl)];go_simp;refine f.out _ _ trivial (λhT=>?_);clear f K;(try dsimp only[Act.put,kqh,kqe,kqd,kqb,kqg,kqf]);refine kz5 (rs:=[2,4]) (by kernel_rfl) (by simp) ?_;refine AllReadyH.cons rfl (λK f=>?_) (AllReadyH.cons rfl (λK f=>?_) AllReadyH.nil)
   .rw[if_pos (by kernel_rfl)];go_simp;refine (E.out X0 Ke.out).mono ?_;rintro e w3 ⟨g3,c3,rfl,a,g⟩;go_simp;refine f.out _ _ trivial (λhT=>?_);clear f K;(try dsimp only[Act.put,kqh,kqe,kqd,kqb,kqg,kqf]);have e1:=(g.cell (p:=⟨w.heap.size,1,none⟩) Nl).trans d1;refine kz5 (rs:=[4]) (by kernel_rfl) (by simp) ?_;refine AllReadyH.cons rfl (λK f=>?_) AllReadyH.nil;rw[if_pos (by kernel_rfl)];go_simp;refine f.out _ _ trivial (λhT=>?_);clear f K;(try dsimp only[Act.put,kqh,kqe,kqd,kqb,kqg,kqf]);exact H _ _ _ (hid ⟨g,a⟩)
   rw[if_pos (by kernel_rfl)];go_simp;refine f.out _ _ trivial (λhT=>?_);clear f K;(try dsimp only[Act.put,kqh,kqe,kqd,kqb,kqg,kqf]);refine kz5 (rs:=[2]) (by kernel_rfl) (by simp) ?_;refine AllReadyH.cons rfl (λK f=>?_) AllReadyH.nil;rw[if_pos (by kernel_rfl)];go_simp;refine (E.out X0 Ke.out).mono ?_;rintro e w3 ⟨g3,c3,rfl,a,g⟩;go_simp;refine f.out _ _ trivial (λhT=>?_);clear f K;(try dsimp only[Act.put,kqh,kqe,kqd,kqb,kqg,kqf]);exact H _ _ _ (hid ⟨g,a⟩)
  rw[if_pos (by kernel_rfl)];go_simp;refine f.out _ _ trivial (λhT=>?_);clear f K;(try dsimp only[Act.put,kqh,kqe,kqd,kqb,kqg,kqf]);refine kz5 (rs:=[1]) (by kernel_rfl) (by simp) ?_;refine AllReadyH.cons rfl (λK f=>?_) AllReadyH.nil;rw[if_pos (by kernel_rfl)];go_simp;refine f.out _ _ trivial (λhT=>?_);clear f K;(try dsimp only[Act.put,kqh,kqe,kqd,kqb,kqg,kqf]);refine kz5 (rs:=[2]) (by kernel_rfl) (by simp) ?_;refine AllReadyH.cons rfl (λK f=>?_) AllReadyH.nil;rw[if_pos (by kernel_rfl)];go_simp;refine (E.out X0 Ke.out).mono ?_;rintro e w3 ⟨g3,c3,rfl,a,g⟩;go_simp;refine f.out _ _ trivial (λhT=>?_);clear f K;(try dsimp only[Act.put,kqh,kqe,kqd,kqb,kqg,kqf]);exact H _ _ _ (hid ⟨g,a⟩)
 case h2 =>
  intro g3 c3 w3 HF;(try dsimp only);obtain⟨g,a⟩:=HF.out;refine tj 6 (.pointer (some ⟨w.heap.size,0,none⟩)) ?_;dsimp only[Act.put,kqh,kqe,kqd,kqb,kqg,kqf];refine kz5 (rs:=[5]) (by kernel_rfl) (by simp) ?_;refine AllReadyH.cons rfl (λK f=>?_) AllReadyH.nil;rw[if_pos (by kernel_rfl)];go_simp;refine (Kf.out w3 (Lu.out.up g g.size)).mono ?_;rintro e w4 ⟨A5,c5,rfl,T,Ll⟩;go_simp;refine f.out _ _ trivial (λNu=>?_);clear f K;(try dsimp only[Act.put,kqh,kqe,kqd,kqb,kqg,kqf]);have x:=g.trans (Ll.mono g.size);have hz34:=x.size;have L:=hid (s.out.up x);have Mo:=hid (ao (ai a Ll (kqa _)) Lr.out);have Me:=hid (ao T (kz3 Lr.out g.size));have Kg:=hid (ai Ls.out x (kqa _));obtain⟨q0,q1,q2,q3,qf0,qf1,qf2,qf3,Nn⟩:=L.out.bd.c4;dsimp only at q1;rw[HM.out] at q1;clear d0 d1 d2 d3 df0 df1 df2 df3 g a T Ll HF x;refine kz5 (rs:=[7]) (by kernel_rfl) (by simp) ?_;refine AllReadyH.cons rfl (λK f=>?_) AllReadyH.nil;rw[if_pos (by kernel_rfl)];go_simp;refine f.out _ _ trivial (λNh=>?_);clear f K;(try dsimp only[Act.put,kqh,kqe,kqd,kqb,kqg,kqf]);refine tj 8 (.pointer (some ⟨w.heap.size,1,none⟩)) ?_
  dsimp only[Act.put,kqh,kqe,kqd,kqb,kqg,kqf];refine kz5 (rs:=[9]) (by kernel_rfl) (by simp) ?_;refine AllReadyH.cons rfl (λK f=>?_) AllReadyH.nil;rw[if_pos (by kernel_rfl)];go_simp;refine f.out _ _ trivial (λNt=>?_);clear f K hT Nu Nh Nt;(try dsimp only[Act.put,kqh,kqe,kqd,kqb,kqg,kqf]);refine kj4 (by kernel_rfl) ?_ _;have La:b.heap.size≠w.heap.size:=by omega
  have i:∀ {sz k:Nat} {e:TypeId} {v:Value} {xs:List Value} {W:World},W.ownsRow (b.heap.size+1) e sz v k xs->v.ownBlock≠some w.heap.size:=λh=>(bH h (show w.heap.size<b.heap.size+1 by omega)).symm;have q:=hid (show RpSt w b.heap.size n ⟨im,dw,lf,dn⟩ (some ⟨g3,0,none⟩) c3 A5 c5 ((w4.setCell ⟨w.heap.size,0,none⟩ (.slice (some ⟨g3,0,none⟩) n c3)).setCell ⟨w.heap.size,1,none⟩ (.slice A5 m c5)) from by
   have b1:=L.out.bd;dsimp only at b1;rw[HM.out] at b1;have o1:=Mo.out;have o2:=Me.out;refine⟨(L.out.be.far (p:=⟨w.heap.size,0,none⟩) La _).far (p:=⟨w.heap.size,1,none⟩) La _,?_,(L.out.br.far (p:=⟨w.heap.size,0,none⟩) (show w.heap.size+1≠w.heap.size by omega) _).far (p:=⟨w.heap.size,1,none⟩) (show w.heap.size+1≠w.heap.size by omega) _,.inr ⟨?_,?_⟩,HN.out,cH o1,Lx.out,(L.out.below.setCell (p:=⟨w.heap.size,0,none⟩) (kqa _) _).setCell (p:=⟨w.heap.size,1,none⟩) (kqa _) _⟩
   .dsimp only;rw[HM.out];exact (b1.set_ 0 (.slice (some ⟨g3,0,none⟩) n c3)).set_ 1 (.slice A5 m c5)
   .exact av (av o1 (p:=⟨w.heap.size,0,none⟩) (i o1) _) (p:=⟨w.heap.size,1,none⟩) (i o1) _
   dsimp only;rw[HM.out];exact av (av o2 (p:=⟨w.heap.size,0,none⟩) (i o2) _) (p:=⟨w.heap.size,1,none⟩) (i o2) _)
  have Kc:=hid (av (av Kg.out (p:=⟨w.heap.size,0,none⟩) (i Kg.out) (.slice (some ⟨g3,0,none⟩) n c3)) (p:=⟨w.heap.size,1,none⟩) (i Kg.out) (.slice A5 m c5));obtain⟨W5,Mc⟩:∃W,(w4.setCell ⟨w.heap.size,0,none⟩ (.slice (some ⟨g3,0,none⟩) n c3)).setCell ⟨w.heap.size,1,none⟩ (.slice A5 m c5)=W:=⟨_,rfl⟩;rw[Mc] at q Kc |-;clear Mc q0 q1 q2 q3 qf0 qf1 qf2 qf3 Nn L Mo Me Kg Ls s;go_wp2_with fail;refine (Md.out _ (HE.out.up q.out.below q.out.below.size)).mono ?_;rintro e w6 ⟨rfl,M⟩;have ST6:=hid ((q.out.up M).setE G);have Ln:=hid (av (ai Kc.out M (kqa _)) (p:=⟨b.heap.size,0,none⟩) (bH (ai Kc.out M (kqa _)) (kjz b.heap.size)).symm (.int .i64 0));obtain⟨f0,ff0,O⟩:=(q.out.be.up M q.out.be.lt).c1;obtain⟨W6,Mj⟩:∃W,w6.setCell ⟨b.heap.size,0,none⟩ (.int .i64 0)=W:=⟨_,rfl⟩;rw[Mj] at ST6 Ln;clear M q Kc;go_wp2_with fail;have Mg:=hid (show RdW W6 W6.heap.size B2 (cE l) from Rd.of_own Ln.out);clear Mj f0 ff0 O Ln;refine (Nr.out _ _ W6 Mg.out).mono ?_;rintro e w7 ⟨⟨A7,c7,rfl,Y⟩,Mf⟩;have Lz:=hid (ST6.out.up Mf);have Mh:=hid (show RdE w7 w7.heap.size A7 (lsE 32 (cE l)) from Rd.of_own Y);clear Y Mf ST6 Mg;have HB0':=hid (Ki.out)
  have V1:=hid (show mg n (lsE 32 (cE l))/\∀e∈lsE 32 (cE l),e.v<18446744073709551616 from ⟨λe o=>by have:=vk (cE l) 32 (n:=n) (by rw[Kq.out];omega) e o;omega,Ge _ _ Nb.out⟩);have V2:=hid (show mg n [⟨24,cmW l⟩]/\∀e∈([⟨24,cmW l⟩]:List En),e.v<18446744073709551616 from ⟨λe o=>by rw[kq1] at o;subst o;dsimp only;omega,λe o=>by rw[kq1] at o;subst o;exact My.out⟩);have V4:=hid (show mg n [⟨24,0⟩]/\∀e∈([⟨24,0⟩]:List En),e.v<18446744073709551616 from ⟨λe o=>by rw[kq1] at o;subst o;dsimp only;omega,λe o=>by rw[kq1] at o;subst o;decide⟩);have V3:=hid (And.intro Nm.out Nq.out);have Ni:=hid (show (lsE 32 (cE l)).length=2*ln by rw[uj,Kq.out]);have r:=hid Ks.out;unfold atL at r;simp only[kx1,kvw] at r;clear Ks Q Md E Kf;go_wp2_with fail;refine (vV _ (lsE 32 (cE l)) (2*ln) _ b.heap.size n im dw lf dn _ _ _ _ w _ Lz.out Ni.out (by omega) V1.out.1 V1.out.2 G Mh.out).mono ?_;rintro e w9 ⟨rfl,A9,c9,DA9,dc9,Lp,-⟩;obtain⟨d9,Ms⟩:∃d,rpP ⟨im,dw,lf,dn⟩ (lsE 32 (cE l))=d:=⟨_,rfl⟩;rw[Ms] at Lp r;obtain⟨im9,dw9,lf9,dn9⟩:=d9;have Mi:=hid Lp;clear Lp Ms Lz Mh;have Km:=hid (Mi.out.alloc (.cells #[.int .u64 ((cmW l:Nat):Int)] 53))
  have Eq:=hid (show RdW (w9.alloc (.cells #[.int .u64 ((cmW l:Nat):Int)] 53)) (w9.alloc (.cells #[.int .u64 ((cmW l:Nat):Int)] 53)).heap.size (some ⟨w9.heap.size,0,none⟩) [cmW l] from Rd.of_own (de (n:=1) (sz:=1) w9 53 #[.int .u64 ((cmW l:Nat):Int)] (kqa _) (by rfl) (by unfold maxLen;omega)));go_wp2_with fail;refine (Mt.out _ 1 (cmW l) _ Eq.out).mono ?_;rintro e w10 ⟨⟨A10,c10,rfl,z⟩,Kj⟩;have Kw:=hid (Km.out.up Kj);have Ku:=hid (show RdE w10 w10.heap.size A10 [⟨24,cmW l⟩] from Rd.of_own z);clear z Kj Km Eq Mi;go_wp2_with fail;refine (vV _ [⟨24,cmW l⟩] 1 _ b.heap.size n im9 dw9 lf9 dn9 _ _ _ _ w _ Kw.out rfl (by omega) V2.out.1 V2.out.2 G Ku.out).mono ?_;rintro e w11 ⟨rfl,A11,c11,DA11,dc11,Ka,-⟩;obtain⟨d11,Lf⟩:∃d,rpP ⟨im9,dw9,lf9,dn9⟩ [⟨24,cmW l⟩]=d:=⟨_,rfl⟩;rw[Lf] at Ka r;obtain⟨Ld,Le,Kl,Lh⟩:=d11;have y:=hid Ka;clear Ka Lf Kw Ku;go_wp2_with fail;refine (vV _ l ln _ b.heap.size n Ld Le Kl Lh _ _ _ _ w _ y.out Nd.out (by omega) V3.out.1 V3.out.2 G (HE.out.up y.out.below y.out.below.size)).mono ?_;rintro e w12 ⟨rfl,A12,c12,DA12,dc12,V,-⟩;obtain⟨d12,Kn⟩:∃d,rpP ⟨Ld,Le,Kl,Lh⟩ l=d:=⟨_,rfl⟩;rw[Kn] at V r;obtain⟨Li,Kv,Kt,Kx⟩:=d12;have Ko:=hid V;clear V Kn y
  have Kz:=hid (Ko.out.alloc (.cells #[.int .u64 0] 53));have P:=hid (show RdW (w12.alloc (.cells #[.int .u64 0] 53)) (w12.alloc (.cells #[.int .u64 0] 53)).heap.size (some ⟨w12.heap.size,0,none⟩) [0] from Rd.of_own (de (n:=1) (sz:=1) w12 53 #[.int .u64 0] (kqa _) (by rfl) (by unfold maxLen;omega)));go_wp2_with fail;refine (Mt.out _ 1 (0) _ P.out).mono ?_;rintro e w13 ⟨⟨A13,c13,rfl,D⟩,Lg⟩;have Lc:=hid (Kz.out.up Lg);have Kp:=hid (show RdE w13 w13.heap.size A13 [⟨24,0⟩] from Rd.of_own D);clear D Lg Kz P Ko;go_wp2_with fail;refine (vV _ [⟨24,0⟩] 1 _ b.heap.size n Li Kv Kt Kx _ _ _ _ w _ Lc.out rfl (by omega) V4.out.1 V4.out.2 G Kp.out).mono ?_;rintro e w14 ⟨rfl,A14,c14,Kk,Ky,N,C,t⟩;obtain⟨d14,Kr⟩:∃d,rpP ⟨Li,Kv,Kt,Kx⟩ [⟨24,0⟩]=d:=⟨_,rfl⟩;rw[Kr] at N r C t;obtain⟨im14,Mq,Mr,Mp⟩:=d14;have j:=hid N;clear N Kr Lc Kp;obtain⟨f0,-,-⟩:=j.out.be.c1;have hd:=j.out.bd;have hl:=j.out.len;dsimp only at hd hl C t;have Ng:=hid hd;have Nc:=hid hl;have Mb:=hid C;have Ly:=hid t;clear hd hl C t;go_wp2_with (first
   | ((with_reducible refine aN 79 (.tmp 2) ?_);refine ldD Ng.out ?_)
   | ((with_reducible refine ar 79 (.tmp 4) _ ?_);refine stD j.out.br ?_;intro w99 No Lm))
  refine kqo (v:=.tuple #[.agg #[.slice A14 n c14,.slice Kk Mq.length Ky,.int .i64 Mr,.bool Mp],.int .i64 0]) (bg results82 _ No.out rfl rfl rfl) rfl ⟨⟨_,rfl,by
   rw[r.out];unfold lx;dsimp only;rw[Nc.out];exact⟨A14,c14,Kk,Ky,rfl,j.out.cap,ao (ap Mb.out Lm.out (by omega)) (by omega),ao (ap Ly.out Lm.out (by omega)) (by omega)⟩⟩,Lm.out.below j.out.below (by omega)⟩
theorem lay_24{ws:List Nat}(h:bN ws=0):wd ws 24=0:=by obtain⟨-,b⟩:=gc h;obtain⟨t,a⟩:=mm b;exact a.z16 24 (by decide) (by decide)
def CoAt (w wr:World) (n:Nat) (d:Dv) (A:Option Addr) (c:Nat) (DA:Option Addr) (dc:Nat):Prop:=
 Bx wr w.heap.size 79 #[.slice A n c,.slice DA d.dw.length dc,.int .i64 d.left,.bool d.down]/\Bx wr (w.heap.size+1) 79 #[.slice none 0 0,.slice none 0 0,.int .i64 0,.bool false]/\n<=c/\d.im.length=n/\Below w.heap.size w wr
def CoGo (w wr:World) (n:Nat) (x0 y:List Nat) (r:Dv × Int) (d:Dv) (A:Option Addr) (c:Nat) (DA:Option Addr) (dc:Nat) (k:Nat) (vx:Value):Prop:=
 ∃E outs B lc,vx=.slice B E.length lc/\outs.length+1<k/\RnAt n x0 y d E outs/\zr (E::outs) d=r/\RdE wr wr.heap.size B E/\Ie w.heap.size (w.heap.size+2) wr A n c DA d.dw.length dc d.im d.dw
def CoEnd (w wr:World) (n:Nat) (r:Dv × Int) (d:Dv) (A:Option Addr) (c:Nat) (DA:Option Addr) (dc:Nat):Prop:=
 (d,0)=r/\wr.ownsRow (w.heap.size+2) 53 1 (.slice A n c) n (d.im.flatMap ag)/\wr.ownsRow (w.heap.size+2) 92 3 (.slice DA d.dw.length dc) d.dw.length (d.dw.flatMap Dw.cells)
theorem Bn(w:World)(H:Nat):lx w H dvZ (.agg #[.slice none 0 0,.slice none 0 0,.int .i64 0,.bool false]):=⟨none,0,none,0,rfl,kqa _,qe _ _ _ _,qe _ _ _ _⟩
theorem AZ(A DA:Option Addr)(im:List Nat)(dw:List Dw)(lf:Int)(dn:Bool)(n c m dc:Nat)(w:World)(hn:im.length=n)(hm:dw.length=m)(hn2:n<=9223372036854775807)(hm2:m<=1000000)(hc:n<=c)(hlt:DvLt ⟨im,dw,lf,dn⟩)(hi:RdW w w.heap.size A im)(hr:RdQ w w.heap.size DA dw):
 Calls prog 37 #[.agg #[.slice A n c,.slice DA m dc,.int .i64 lf,.bool dn]] w λe w'=>(∃u,e=.returned (.tuple #[u,.int .i64 (coR ⟨im,dw,lf,dn⟩).2])/\lx w' w.heap.size (coR ⟨im,dw,lf,dn⟩).1 u)/\Below w.heap.size w w':=by
 have a:=hid (λW (h:RdW W W.heap.size A im) (h2:RdQ W W.heap.size DA dw)=>pU A DA im dw lf dn n c m dc W hn hm (by omega) (by omega) h h2);unfold ES at a;have Me:(dvV ⟨im,dw,lf,dn⟩).length=n:=(j9 _).trans hn;dsimp only at a;rw[hn] at a;obtain⟨W0,Ks,x0,x1,Mo,Ms⟩:=nq w A DA lf dn n c m dc;have X0:=hid x0;have X1:=hid x1;have j:=hid Mo;have HI:=hid hi;have HQ:=hid hr;have HN:=hid hn;have HM:=hid hm;have Ml:=hid hlt;have Mx:=hid Me;have k:w.heap.size<=W0.heap.size:=by omega
 have Le:w.heap.size<W0.heap.size:=by omega
 have Kl:w.heap.size+1<W0.heap.size:=by omega
 have Kd:w.heap.size+1≠w.heap.size:=by omega
 clear hi hr x0 x1 Mo Ms hn hm hlt Me;by_cases h0:fh ⟨im,dw,lf,dn⟩=0
 .rw[h0] at a;have Ly:=hid (pF h0);have Kn:=hid h0;clear h0;cases dn with
  | true =>
   have HV:Hid (coR ⟨im,dw,lf,true⟩=(dvZ,60)):=hid (by unfold coR;rw[if_pos Kn.out,if_pos rfl]);rw[HV.out];go_enter func37,ntmps37;go_wp2_with (first
    | ((with_reducible refine aN 79 (.tmp 1) ?_);refine ldD X0.out ?_))
   clear Ks;refine (a.out W0 (HI.out.up j.out k) (HQ.out.up j.out k)).mono ?_;rintro e w1 ⟨⟨s,-⟩,d⟩;obtain⟨gv,cv,rfl,-⟩:=s (by trivial);have Y0:=hid (X0.out.up d Le);have Y1:=hid (X1.out.up d Kl);have x:=hid (j.out.trans (d.mono k));obtain⟨-,-,-,q3,-,-,-,-,hg⟩:=Y0.out.c4;clear s d a;go_wp2_with (first
    | ((with_reducible refine ar 79 (.tmp 2) _ ?_);refine stD Y1.out ?_;intro w9 C g))
   refine kqo (v:=.tuple #[.agg #[.slice none 0 0,.slice none 0 0,.int .i64 0,.bool false],.int .i64 60]) (bg results37 _ C.out rfl rfl rfl) rfl ⟨⟨_,rfl,Bn _ _⟩,g.out.below x.out (by omega)⟩
  | false =>
   have G:=hid (λB O W (Lh:n<=O) (h:RdW W W.heap.size B (dvV ⟨im,dw,lf,false⟩))=>sQ B (dvV ⟨im,dw,lf,false⟩) O n W Mx.out hn2 Lh h Ml.out.v);unfold iu at G;by_cases l:bN (dvV ⟨im,dw,lf,false⟩)=0
   .rw[l,if_pos rfl] at G;have Y:=vG Ly.out Ml.out rfl l (lay_24 l);have HV:=hid (Gr Ly.out rfl l);dsimp only at Y;rw[HN.out] at Y;obtain⟨ZZ,Lv⟩:∃Z,cpZ (dvV ⟨im,dw,lf,false⟩)=Z:=⟨_,rfl⟩;obtain⟨VV,Mj⟩:∃Z,dvV ⟨im,dw,lf,false⟩=Z:=⟨_,rfl⟩;obtain⟨N,ho⟩:∃N,(rsE (gA (dvV ⟨im,dw,lf,false⟩))).2.1=N:=⟨_,rfl⟩;rw[ho,Lv,Mj] at Y;rw[ho] at HV;have Mw:=hid Y;obtain⟨rr,X⟩:∃r,coR ⟨im,dw,lf,false⟩=r:=⟨_,rfl⟩;rw[X] at HV |-;clear Y ho X l Lv Mj;go_enter func37,ntmps37;go_wp2_with (first
     | ((with_reducible refine aN 79 (.tmp 1) ?_);refine ldD X0.out ?_))
    clear Ks;refine (a.out W0 (HI.out.up j.out k) (HQ.out.up j.out k)).mono ?_;rintro e w1 ⟨⟨s,-⟩,d⟩;obtain⟨gv,cv,rfl,q⟩:=s (by trivial);have Y0:=hid (X0.out.up d Le);have Y1:=hid (X1.out.up d Kl);have x:=hid (j.out.trans (d.mono k));have Ll:=cH q;have Ls:=hid (show RdW w1 w1.heap.size _ _ from Rd.of_own q);obtain⟨-,-,-,q3,-,-,-,-,hg⟩:=Y0.out.c4;have Eq:=Y1.out.lt;clear s d a q;go_wp2_with fail;refine (G.out _ _ w1 Ll Ls.out).mono ?_;rintro e w2 ⟨⟨B2,lc2,rfl,Ke⟩,F⟩;have Z0:=hid (Y0.out.up F hg);have Z1:=hid (Y1.out.up F Eq);have Kk:=hid (x.out.trans (F.mono x.out.size));have My:=hid (show RdE w2 w2.heap.size B2 [⟨16,1⟩] from Rd.of_own Ke);clear F Ke q3 G;go_wp2_with fail;go_loopg [6,7] (N.length+2) (λgk vx vd wr=>∃(d2:Dv) (A2 K:Option Addr) (O M:Nat),Hid (CoAt w wr n d2 A2 O K M)/\((vd=.bool false/\Hid (CoGo w wr n VV ZZ rr d2 A2 O K M gk vx))\/(vd=.bool true/\Hid (CoEnd w wr n rr d2 A2 O K M))))
    case atStart =>
     refine⟨⟨im,dw,lf,false⟩,A,DA,c,dc,hid ⟨?_,Z1.out,hc,HN.out,Kk.out⟩,.inl ⟨rfl,hid ⟨[⟨16,1⟩],N,B2,lc2,rfl,by omega,Mw.out,HV.out.symm,My.out,.inl ⟨HI.out.below Kk.out,HQ.out.below Kk.out⟩⟩⟩⟩;dsimp only;rw[HM.out];exact Z0.out
    obtain⟨d2,A2,K,O,M,Km,⟨rfl,Mb⟩|⟨rfl,Lw⟩⟩:=hrel
    .obtain ⟨V,I,U,S⟩:=d2;obtain⟨E,z,B3,lc3,rfl,Mg,f,Lb,Mh,Lp⟩:=Mb.out;have Lf:=hid f;have Q:=hid Lb;obtain⟨ab0,ab1,ac,al,J⟩:=Km.out;have A0:=hid ab0;have A1:=hid ab1;have Kr:=hid J;have Nb:=(aa _).1 f.size;have Mr:=f.err;have Kf:=hid (xd A2 K B3 V I U S n O I.length M E E.length lc3 wr al rfl ac f.ok rfl f.small.pos f.small.le (f.small.ent f.size) f.w24 f.small.in_ (f.small.eok (by omega)) (Lp.rd J.size).1 (Lp.rd J.size).2 Mh);unfold lx at Kf;obtain⟨m1,m2,m3⟩:=f.made;have Ld:=hid m1;have Mn:=hid m2;have D:=hid m3;have Kb:=hid (λ(h:z=[])=>(h ▸ f:RnAt n VV ZZ ⟨V,I,U,S⟩ E []).done);have Kh:=hid (λE2 outs3 (h:z=E2::outs3)=>(h ▸ f:RnAt n VV ZZ ⟨V,I,U,S⟩ E (E2::outs3)).step);unfold zr at Q;obtain⟨d3,Lt⟩:∃d3,atM ⟨V,I,U,S⟩ E=d3:=⟨_,rfl⟩;rw[Lt] at Kf Ld Mn D Kb Kh Q;rw[D.out] at Kf;have Mz:=A0.out.lt;have Mi:=A1.out.lt;have Kw:=hid Mg;dsimp only at A0;clear f Lb Mh Lp ab0 ab1 ac al J Mr m1 m2 m3 Mb Km Lt Mg Nb;obtain⟨p,o,y,dn3⟩:=d3;go_wp2_with (first
      | ((with_reducible refine aN 79 (.tmp 1) ?_);refine ldD A0.out ?_))
     refine Kf.out.mono ?_;rintro e w3 ⟨⟨_,rfl,A3,c3,R,dc3,rfl,Lm,Mp,Mf⟩,Kj⟩;have Lg:=hid (ao Mp (show w.heap.size+2<=wr.heap.size by omega));have Lq:=hid (ao Mf (show w.heap.size+2<=wr.heap.size by omega));have Kg:=hid (Kr.out.trans (Kj.mono Kr.out.size));have C0:=hid (A0.out.up Kj Mz);have C1:=hid (A1.out.up Kj Mi);have Mv:=Kj.size;clear Mp Mf Kj Kf;have X8:=hid (Bx.new w3 79 #[.slice none 0 0,.slice none 0 0,.int .i64 0,.bool false]);have Lr:w.heap.size≠w3.heap.size:=by omega
     have Kp:=hid ((kqk w3.heap.size w3).alloc (kqa _) (.cells #[.slice none 0 0,.slice none 0 0,.int .i64 0,.bool false] 79));dsimp only;cases dn3 with
     | true =>
      have H:Hid (rr=(⟨p,o,y,true⟩,60)):=hid (by rw[<-Q.out,if_pos rfl]);clear Q Kb Kh Lf Kw;go_wp2_with (first
       | (((with_reducible refine ar 79 (.tmp 8) _ ?_);refine stD X8.out ?_;intro w4 U8 Ku);have b:=hid (Ku.out.below Kp.out (kqa _));have C04:=hid (C0.out.up b.out C0.out.lt);have C14:=hid (C1.out.up b.out C1.out.lt);have Kt:=hid (ai Lg.out b.out (kqa _));have Kq:=hid (ai Lq.out b.out (kqa _));have Ko:=hid (Kg.out.trans (b.out.mono Kg.out.size)))
       | ((with_reducible refine aN 79 (.tmp 8) ?_);refine ldD U8.out ?_)
       | (((with_reducible refine ar 79 (.tmp 1) _ ?_);refine stD C04.out ?_;intro w5 U0 t);obtain⟨s0,s1,s2,s3,sf0,sf1,sf2,sf3,slt⟩:=U0.out.c4)
       | ((with_reducible refine aN 79 (.tmp 1) ?_);refine ldD U0.out ?_)
       | ((with_reducible refine ar 79 (.tmp 2) _ ?_);refine stD (t.out.bx C14.out Kd) ?_;intro w9 C g))
      refine kqo (v:=.tuple #[.agg #[.slice A3 n c3,.slice R o.length dc3,.int .i64 y,.bool true],.int .i64 60]) (bg results37 _ C.out rfl rfl rfl) rfl ⟨⟨_,by rw[H.out],by
       rw[H.out];unfold lx;dsimp only;rw[show p.length=n from D.out];exact⟨A3,c3,R,dc3,rfl,Lm,ao (ap (ap Kt.out t.out (by omega)) g.out (by omega)) (by omega),ao (ap (ap Kq.out t.out (by omega)) g.out (by omega)) (by omega)⟩⟩,g.out.below (t.out.below Ko.out (kqa _)) (by omega)⟩
     | false =>
      have H:Hid (rr=zr z ⟨p,o,y,false⟩):=hid (by rw[<-Q.out,if_neg (by simp)]);have a:=hid (λW (h:RdW W W.heap.size A3 p) (h2:RdQ W W.heap.size R o)=>pU A3 R p o y false n c3 o.length dc3 W D.out rfl (by omega) (by have:=(pp Ld.out).1;dsimp only at this;omega) h h2);unfold ES at a;rw[jQ Ld.out] at a;have Kz:(dvV ⟨p,o,y,false⟩).length=n:=(j9 _).trans D.out;dsimp only at a;rw[show p.length=n from D.out] at a;have Ka:=hid (λB2 O W (Lh:n<=O) (h:RdW W W.heap.size B2 (dvV ⟨p,o,y,false⟩))=>Au B2 (dvV ⟨p,o,y,false⟩) O n W Kz hn2 Lh h Mn.out.v);unfold Jw at Ka;clear Q Kz;go_wp2_with (first
       | (((with_reducible refine ar 79 (.tmp 8) _ ?_);refine stD X8.out ?_;intro w4 U8 Ku);have b:=hid (Ku.out.below Kp.out (kqa _));have C04:=hid (C0.out.up b.out C0.out.lt);have C14:=hid (C1.out.up b.out C1.out.lt);have Kt:=hid (ai Lg.out b.out (kqa _));have Kq:=hid (ai Lq.out b.out (kqa _));have Ko:=hid (Kg.out.trans (b.out.mono Kg.out.size)))
       | ((with_reducible refine aN 79 (.tmp 8) ?_);refine ldD U8.out ?_)
       | (((with_reducible refine ar 79 (.tmp 1) _ ?_);refine stD C04.out ?_;intro w5 U0 t);obtain⟨s0,s1,s2,s3,sf0,sf1,sf2,sf3,slt⟩:=U0.out.c4)
       | ((with_reducible refine aN 79 (.tmp 1) ?_);refine ldD U0.out ?_))
      have Lk:=hid (ap Kt.out t.out (show w.heap.size<w.heap.size+2 by omega));have Lc:=hid (ap Kq.out t.out (show w.heap.size<w.heap.size+2 by omega));have C15:=hid (t.out.bx C14.out Kd);have Li:=hid (t.out.below Ko.out (kqa _));have Md:=U0.out.lt;have La:=C15.out.lt;clear s0 s1 s2 s3 sf0 sf1 sf2 sf3 slt U8 Ku b t Kt Kq C14 C04 Ko Lg Lq C0 C1 Kg Lr Mv;refine (a.out w5 (Rd.of_own Lk.out) (Rd.of_own Lc.out)).mono ?_;rintro e w6 ⟨⟨Lz,-⟩,P⟩;obtain⟨gv6,cv6,rfl,L⟩:=Lz (by trivial);have Ky:=cH L;have Lu:=hid (show RdW w6 w6.heap.size _ _ from Rd.of_own L);have Mq:=hid (ai Lk.out P (kqa _));have Ma:=hid (ai Lc.out P (kqa _));have D06:=hid (U0.out.up P Md);have D16:=hid (C15.out.up P La);have Kv:=hid (Li.out.trans (P.mono Li.out.size));have Mm:=D06.out.lt;have Kx:=D16.out.lt;clear Lz L P a Lk Lc U0 C15 Li Md La;have Kc:=Kw.out;cases z with
      | nil =>
       have T:=Kb.out (by trivial) (by trivial);rw[T] at Ka;clear T Kb Kh Lf;go_wp2_with fail;refine (Ka.out _ _ w6 Ky Lu.out).mono ?_;rintro e w7 ⟨⟨A7,c7,rfl,-⟩,i⟩;have Ln:=hid (ai Mq.out i (kqa _));have Lo:=hid (ai Ma.out i (kqa _));have D07:=hid (D06.out.up i Mm);have D17:=hid (D16.out.up i Kx);have Lj:=hid (Kv.out.trans (i.mono Kv.out.size));clear i;go_wp2;go_roundg 1
       case rel=>exact⟨⟨p,o,y,false⟩,A3,R,c3,dc3,hid ⟨D07.out,D17.out,Lm,D.out,Lj.out⟩,.inr ⟨rfl,hid ⟨H.out.symm,Ln.out,Lo.out⟩⟩⟩
       case measure=>simp only[kxb] at Kc;omega
      | cons E2 outs3 =>
       have T:=Kh.out E2 outs3 (by trivial) (by trivial);rw[T.1] at Ka;have Mc:=hid T.2;clear T Kb Kh Lf;go_wp2_with fail;refine (Ka.out _ _ w6 Ky Lu.out).mono ?_;rintro e w7 ⟨⟨A7,c7,rfl,Ki⟩,i⟩;have Mt:=hid (show RdE w7 w7.heap.size A7 E2 from Rd.of_own Ki);have Ln:=hid (ai Mq.out i (kqa _));have Lo:=hid (ai Ma.out i (kqa _));have D07:=hid (D06.out.up i Mm);have D17:=hid (D16.out.up i Kx);have Lj:=hid (Kv.out.trans (i.mono Kv.out.size));clear i Ki;go_wp2;go_roundg (outs3.length+2)
       case rel=>exact⟨⟨p,o,y,false⟩,A3,R,c3,dc3,hid ⟨D07.out,D17.out,Lm,D.out,Lj.out⟩,.inl ⟨rfl,hid ⟨E2,outs3,A7,c7,rfl,by omega,Mc.out,H.out.symm,Mt.out,.inr ⟨Ln.out,Lo.out⟩⟩⟩⟩
       case measure=>simp only[kq0] at Kc;omega
    obtain⟨V,I,U,S⟩:=d2;obtain⟨ab0,ab1,ac,al,J⟩:=Km.out;obtain⟨X,ho,hq⟩:=Lw.out;have A0:=hid ab0;have A1:=hid ab1;have Kr:=hid J;have HO:=hid ho;have Na:=hid hq;have H:=hid X;dsimp only at A0;have Kp:=hid al;clear ab0 ab1 al J X ho hq Km Lw;go_wp2_with (first
     | ((with_reducible refine aN 79 (.tmp 1) ?_);refine ldD A0.out ?_)
     | ((with_reducible refine ar 79 (.tmp 2) _ ?_);refine stD A1.out ?_;intro w9 C g))
    refine kqo (v:=.tuple #[.agg #[.slice A2 n O,.slice K I.length M,.int .i64 U,.bool S],.int .i64 0]) (bg results37 _ C.out rfl rfl rfl) rfl ⟨⟨_,by rw[<-H.out],by
     rw[<-H.out];unfold lx;dsimp only;rw[show V.length=n from Kp.out];exact⟨A2,O,K,M,rfl,ac,ao (ap HO.out g.out (by omega)) (by omega),ao (ap Na.out g.out (by omega)) (by omega)⟩⟩,g.out.below Kr.out (by omega)⟩
   have Mu:=hid l;rw[if_neg l] at G;have HV:Hid (coR ⟨im,dw,lf,false⟩=(dvZ,bN (dvV ⟨im,dw,lf,false⟩))):=hid (by unfold coR;rw[if_pos Kn.out,if_neg (by simp),if_neg l]);obtain⟨r,Lx⟩:∃r,bN (dvV ⟨im,dw,lf,false⟩)=r:=⟨_,rfl⟩;rw[Lx] at G HV l;rw[HV.out];have e1:(r != 0)=true:=by rw[kqv];exact l
   clear Lx l Mu;go_enter func37,ntmps37;go_wp2_with (first
    | ((with_reducible refine aN 79 (.tmp 1) ?_);refine ldD X0.out ?_))
   clear Ks;refine (a.out W0 (HI.out.up j.out k) (HQ.out.up j.out k)).mono ?_;rintro e w1 ⟨⟨s,-⟩,d⟩;obtain⟨gv,cv,rfl,q⟩:=s (by trivial);have Y0:=hid (X0.out.up d Le);have Y1:=hid (X1.out.up d Kl);have x:=hid (j.out.trans (d.mono k));have Ll:=cH q;have Ls:=hid (show RdW w1 w1.heap.size _ _ from Rd.of_own q);obtain⟨-,-,-,q3,-,-,-,-,hg⟩:=Y0.out.c4;have Eq:=Y1.out.lt;clear s d a q;go_wp2_with fail;refine (G.out _ _ w1 Ll Ls.out).mono ?_;rintro e w2 ⟨⟨B2,lc2,rfl,-⟩,F⟩;have Z1:=hid (Y1.out.up F Eq);have Kk:=hid (x.out.trans (F.mono x.out.size));clear F q3 G;go_wp2_with (first
    | ((with_reducible refine ar 79 (.tmp 2) _ ?_);refine stD Z1.out ?_;intro w9 C g))
   refine kqo (v:=.tuple #[.agg #[.slice none 0 0,.slice none 0 0,.int .i64 0,.bool false],.int .i64 r]) (bg results37 _ C.out rfl rfl rfl) rfl ⟨⟨_,rfl,Bn _ _⟩,g.out.below Kk.out (by omega)⟩
 have Kn:=hid (CZ h0);have HV:Hid (coR ⟨im,dw,lf,dn⟩=(dvZ,8)):=hid (by unfold coR;rw[if_neg h0]);rw[Kn.out] at a;rw[HV.out];clear h0;go_enter func37,ntmps37;go_wp2_with (first
  | ((with_reducible refine aN 79 (.tmp 1) ?_);refine ldD X0.out ?_))
 clear Ks;refine (a.out W0 (HI.out.up j.out k) (HQ.out.up j.out k)).mono ?_;rintro e w1 ⟨⟨-,s⟩,d⟩;obtain rfl:=s (by decide);have Y1:=hid (X1.out.up d Kl);have x:=hid (j.out.trans (d.mono k));clear d a;go_wp2_with (first
  | ((with_reducible refine ar 79 (.tmp 2) _ ?_);refine stD Y1.out ?_;intro w9 C g))
 refine kqo (v:=.tuple #[.agg #[.slice none 0 0,.slice none 0 0,.int .i64 0,.bool false],.int .i64 8]) (bg results37 _ C.out rfl rfl rfl) rfl ⟨⟨_,rfl,Bn _ _⟩,g.out.below x.out (by omega)⟩
end Go.Proofs.YtpcajamacpbjcaaGreat
