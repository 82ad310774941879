/- Putting entries into a device: what the closure of replay.Put does. -/
import Derived.Test.YtpcajamacpbjcaaGreatZGC
import Derived.Test.YtpcajamacpbjcaaGreatZGD
import Derived.Test.YtpcajamacpbjcaaGreatZGF
import Derived.Test.YtpcajamacpbjcaaGreatZGE
set_option maxHeartbeats 16000000
set_option maxRecDepth 100000
set_option linter.all false
namespace Go.Proofs.YtpcajamacpbjcaaGreat
open Lib (hid)
open Go.RowKit Go.Lib
variable {d:Dv}{l:List En}{ad:List Int}{a b n:Nat}{P:Program}{w w':World}
open Go.Proofs.Tryz
def Two (w w':World) (a b:Nat):Prop:=∃w1,w.grownBy w1 (some a)/\w1.grownBy w' (some b)
theorem Two.own{H sz:Nat}{e:TypeId}{v:Value}{xs:List Value}(h:Two w w' a b)(ho:w.ownsRow H e sz v n xs)(ha:a<H)(hb:b<H):w'.ownsRow H e sz v n xs:=by obtain⟨w1,f,d⟩:=h;have c:=bu ho f (.inr (bK ho ha).symm);exact bu c d (.inr (bK c hb).symm)
theorem Two.below{w0:World}{B:Nat}(h:Two w w' a b)(hb:Below B w0 w)(hs:B<=w.heap.size)(ha:B<=a)(hb2:B<=b):Below B w0 w':=by obtain⟨e,d,g⟩:=h;have f:Below B w0 e:=hb.grown d hs (λj c=>by cases c;exact ha);exact f.grown g (kz5 hs d.size) (λj c=>by cases c;exact hb2)
theorem Two.bx{g:Nat}{t:TypeId}{cs:Array Value}(h:Two w w' a b)(hb:Bx w g t cs)(h1:g≠a)(h2:g≠b):Bx w' g t cs:=by obtain⟨w1,d,c⟩:=h;exact (hb.grown d λe=>h1 (by injection e)).grown c λe=>h2 (by injection e)
theorem qG{op:Oper}{a:Act}{K:Act->World->Prop}{Q:Exit->Act->World->Prop}(ty:TypeId)(x y:Operand)(ho:op.op=.store ty x y)(g:Nat)(t:TypeId)(cs0 cs:Array Value)(hx:a.eval x=.pointer (some ⟨g,0,none⟩))(hy:a.eval y=.agg cs)(hb:Bx w g t cs0)(hs:cs.size=cs0.size)(hi:(P.info? ty).map (·.size)=some cs.size)(h1:cs.all (·.oneCell')=true)(h:∀W',Bx W' g t cs->iq w W' g->K (a.put op.dst undef) W'):op.wp P a w K Q:=by
 have b:w.there g 0 cs.size:=by rw[hs];exact jC hb
 exact wp_store_mid ty x y ho g 0 cs hx hy b hi h1 (h _ (fA hb hs) ⟨cV _ _ _,λg' c=>dr c _ _ _,λB d=>aU d _ (kql _ _)⟩)
theorem px{o:Oper}{a:Act}(ty:TypeId)(x:Operand)(ho:o.op=.load ty x)(g:Nat)(hx:a.eval x=.pointer (some ⟨g,0,none⟩))(t:TypeId)(cs:Array Value)(d:TypeDesc)(hb:Bx w g t cs)(hu:P.underlying ty=some d)(hd:(match d with | .struct _ | .array _ _=>true | _=>false)=true)(hi:(P.info? ty).map (·.size)=some cs.size):(execOp a.eval o).run P w=.ok (.value (.agg cs)) w:=by have b:=run_loadVar_row w g t ty cs (0,0) d hb hu hd hi;unfold execOp;simp only[ho,hx,Instr.loadAt,Instr.sureAddr,Sem.run_bind,Sem.run_pure,Result.andThen_ok,b]
def Fu (B H:Nat) (w:World) (A:Option Addr) (n c:Nat) (DA:Option Addr) (m dc:Nat) (im:List Nat) (dw:List Dw):Prop:=
 (RdW w B A im/\RdQ w B DA dw)\/(w.ownsRow H 53 1 (.slice A n c) n (im.flatMap ab)/\w.ownsRow H 92 3 (.slice DA m dc) m (dw.flatMap Dw.cells))
section
variable {B H:Nat} {w w':World} {A DA:Option Addr} {n c m dc:Nat} {im:List Nat} {dw:List Dw}
theorem Fu.rd(h:Fu B H w A n c DA m dc im dw)(hB:B<=w.heap.size):RdW w w.heap.size A im/\RdQ w w.heap.size DA dw:=by
 rcases h with h|h
 .exact ⟨Rd.more h.1 hB,Rd.more h.2 hB⟩
 exact⟨Rd.of_own h.1,Rd.of_own h.2⟩
theorem Fu.up(h:Fu B H w A n c DA m dc im dw)(hb:Below w.heap.size w w')(hB:B<=w.heap.size):Fu B H w' A n c DA m dc im dw:=by
 rcases h with h|h
 .exact .inl ⟨Rd.below h.1 (hb.mono hB),Rd.below h.2 (hb.mono hB)⟩
 exact .inr ⟨ai h.1 hb (kqd _),ai h.2 hb (kqd _)⟩
end
theorem Av(gE gD:Nat)(old:Array Value)(A DA:Option Addr)(lf:Int)(dn:Bool)(n c m dc:Nat)(w:World)(hs:old.size=4)(he:Bx w gE 27 #[.int .i64 0])(hd:Bx w gD 79 old)(hne:gE≠gD):
 Calls prog 179 #[.agg #[.slice A n c,.slice DA m dc,.int .i64 lf,.bool dn],.int .i64 0,.pointer (some ⟨gE,0,none⟩),.pointer (some ⟨gD,0,none⟩)] w λe w'=>e=.returned (.tuple #[])/\Bx w' gE 27 #[.int .i64 0]/\Bx w' gD 79 #[.slice A n c,.slice DA m dc,.int .i64 lf,.bool dn]/\Two w w' gD gE:=by
 have i:=hid (he.alloc (.cells #[.slice A n c,.slice DA m dc,.int .i64 lf,.bool dn] 79));have j:=hid (hd.alloc (.cells #[.slice A n c,.slice DA m dc,.int .i64 lf,.bool dn] 79));have l:=hid (Bx.new w 79 #[.slice A n c,.slice DA m dc,.int .i64 lf,.bool dn]);have q:=hid (show w.grownBy (w.alloc (.cells #[.slice A n c,.slice DA m dc,.int .i64 lf,.bool dn] 79)) (some gD) from dI ((kql w.heap.size w).alloc (kqd _) _));obtain⟨o,g⟩:=xq (w.alloc (.cells #[.slice A n c,.slice DA m dc,.int .i64 lf,.bool dn] 79));rw[g] at i j l q;have hgd:gD<w.heap.size:=hd.lt;have hge:gE<w.heap.size:=he.lt;have hnd:w.heap.size≠gD:=by omega
 have hne2:w.heap.size≠gE:=by omega
 have b:gD≠gE:=λh=>hne h.symm;have s:=hid hs;obtain⟨e0,ef,-⟩:=i.out.c1;clear he hd hs;go_enter func179,ntmps179;go_wp2_with (first
  | ((with_reducible refine aM 79 (.tmp 4) ?_);refine ldD l.out ?_)
  | (((with_reducible refine aq 79 (.tmp 3) _ ?_);refine ak rfl _ _ _ rfl gD 79 old #[.slice A n c,.slice DA m dc,.int .i64 lf,.bool dn] (by rfl) (by rfl) j.out s.out.symm jP (by simp[Value.oneCell']) ?_;intro f d a;have t:=hid d;have k:=hid a;clear d a);have r:=hid (k.out.bx i.out hne);obtain⟨u0,uf,-⟩:=r.out.c1))
 go_end0;refine⟨rfl,r.out.set_ 0 (.int .i64 0),t.out.far (p:=⟨gE,0,none⟩) b _,f,mV q.out k.out.grown,eB (vs:=[.int .i64 0]) (dI (kql f.heap.size f))⟩
open Go.RowKit
theorem CH :∀ {l:List Dw} {b:Int},iu n l b=true -> -1<=b->(l.length:Int)+b<(n:Int)\/l=[]:=by
 intro l
 induction l with
 | nil=>intro b _ _;exact .inr rfl
 | cons e l ih =>
  intro b h hb;simp only[iu,kqt,kzc] at h;rcases ih h.2.2 (by omega) with a|a
  .left;rw[kq2];omega
  left;subst a;simp only[kq2,kxk];omega
theorem ox(h:eW d=true):d.dw.length<=2048/\256<=d.im.length/\d.im.length<=2048:=by
 have b:=(bH d).1 h;have hs:=(aa _).1 b.1;refine⟨?_,by omega,by omega⟩;rcases CH b.2.2.2.2 (by omega) with a|a
 .omega
 rw[a];simp
theorem Bp{k:Nat}(hk:k<l.length):nP d (l.take (k+1))=dvS (nP d (l.take k)) l[k].a l[k].v:=by unfold nP;rw[kqo hk,List.foldl_append];rfl
theorem vB{cs:Array Value}(h:lq cs ad n):cs.all (·.oneCell')=true:=by rw[kkz];intro i b;have a:=h.2 i (by have:=h.1;omega);rw[kjh b] at a;injection a with a;rw[a];rfl
theorem If:(prog.info? 156).map (·.size)=some 256:=by kernel_rfl
theorem Im{x:Int}:∀ {n:Nat},dy ad x n=true->∃j,j<n/\(ad[j]?.getD 0)/8=x/8:=by
 intro n
 induction n with
 | zero=>intro h;cases h
 | succ n ih =>
  intro h;unfold dy at h;rw[kxv] at h;rcases h with h|h
  .obtain ⟨j,h1,a⟩:=ih h;exact⟨j,by omega,a⟩
  exact⟨n,by omega,by rwa [kqw] at h⟩
structure RpSt (w:World) (gE n:Nat) (d:Dv) (A:Option Addr) (c:Nat) (DA:Option Addr) (dc:Nat) (wr:World):Prop where
 be:Bx wr gE 27 #[.int .i64 0]
 bd:Bx wr w.heap.size 79 #[.slice A n c,.slice DA d.dw.length dc,.int .i64 d.left,.bool d.down]
 br:Bx wr (w.heap.size+1) 79 #[.slice none 0 0,.slice none 0 0,.int .i64 0,.bool false]
 at_:Fu w.heap.size (gE+1) wr A n c DA d.dw.length dc d.im d.dw
 len:d.im.length=n
 cap:n<=c
 ok:eW d=true
 below:Below w.heap.size w wr
section
variable {w wr wr':World} {gE n c dc:Nat} {d:Dv} {A DA:Option Addr}
theorem RpSt.up(h:RpSt w gE n d A c DA dc wr)(hb:Below wr.heap.size wr wr'):RpSt w gE n d A c DA dc wr':=
 ⟨h.be.up hb h.be.lt,h.bd.up hb h.bd.lt,h.br.up hb h.br.lt,h.at_.up hb h.below.size,h.len,h.cap,h.ok,h.below.trans (hb.mono h.below.size)⟩
theorem RpSt.alloc(h:RpSt w gE n d A c DA dc wr)(o:Obj):RpSt w gE n d A c DA dc (wr.alloc o):=h.up ((kql _ _).alloc (kqd _) o)
theorem RpSt.do_(h:RpSt w gE n d A c DA dc wr){w2 w3:World}(hb:Below wr.heap.size wr w2)(hE:w.heap.size+1<gE){d2:Dv}{A2 DA2:Option Addr}{c2 dc2:Nat}(h2:w2.ownsRow wr.heap.size 53 1 (.slice A2 n c2) n (d2.im.flatMap ab))(h3:w2.ownsRow wr.heap.size 92 3 (.slice DA2 d2.dw.length dc2) d2.dw.length (d2.dw.flatMap Dw.cells))(hc:n<=c2)(hl:d2.im.length=n)(hok:eW d2=true)(he:Bx w3 gE 27 #[.int .i64 0])(hd:Bx w3 w.heap.size 79 #[.slice A2 n c2,.slice DA2 d2.dw.length dc2,.int .i64 d2.left,.bool d2.down])(ht:Two w2 w3 w.heap.size gE):RpSt w gE n d2 A2 c2 DA2 dc2 w3:=by have a:=h.up hb;have hg:=h.be.lt;refine⟨he,hd,ht.bx a.br (by omega) (by omega),.inr ⟨ht.own (ao h2 (show gE+1<=wr.heap.size by omega)) (by omega) (by omega),ht.own (ao h3 (show gE+1<=wr.heap.size by omega)) (by omega) (by omega)⟩,hl,hc,hok,ht.below a.below a.below.size (kqd _) (by omega)⟩
end
theorem FX(A DA B:Option Addr)(im:List Nat)(dw:List Dw)(lf:Int)(dn:Bool)(n c m dc:Nat)(l:List En)(ln lc:Nat)(w:World)(hn:im.length=n)(hm:dw.length=m)(hc:n<=c)(hok:eW ⟨im,dw,lf,dn⟩=true)(hln:l.length=ln)(h64:ln<=64)(hin:mD n l)(hv:∀e∈l,e.v<18446744073709551616)(hi:RdW w w.heap.size A im)(hr:RdQ w w.heap.size DA dw)(he:RdE w w.heap.size B l):
 Calls prog 128 #[.agg #[.slice A n c,.slice DA m dc,.int .i64 lf,.bool dn],.slice B ln lc] w λe w'=>(∃u,e=.returned (.tuple #[u,.int .i64 0])/\mh w' w.heap.size (rpP ⟨im,dw,lf,dn⟩ l) u)/\Below w.heap.size w w':=by
 have hb:=ox hok;dsimp only at hb;rw[hn,hm] at hb;obtain⟨hb1,hb2,hb3⟩:=hb;subst hln;have Jp:=hid (λW (h:RdQ W W.heap.size DA dw)=>kZ A DA im dw lf dn n c m dc W hn hm (by omega) (by omega) h);rw[jH hok] at Jp;obtain⟨W0,Kp,x0,x1,Jy,Kr⟩:=mL w A DA lf dn n c m dc;have X0:=hid x0;have X1:=hid x1;have Jz:=hid Jy;have HI:=hid hi;have HQ:=hid hr;have HE:=hid he;have HN:=hid hn;have HM:=hid hm;have Kf:=hid hok;have Jk:=hid hin;have HV:=hid hv;have Kg:w.heap.size<=W0.heap.size:=by omega
 have Kx:w.heap.size<W0.heap.size:=by omega
 have Kw:w.heap.size+1<W0.heap.size:=by omega
 have hgt:decide ((64:Int)<(l.length:Int))=false:=by rw[kqh];omega
 clear hi hr he x0 x1 Jy Kr hn hm hok hin hv;go_enter func128,ntmps128;go_wp2_with (first
  | ((with_reducible refine aM 79 (.tmp 2) ?_);refine ldD X0.out ?_))
 clear Kp;refine (Jp.out W0 (HQ.out.up Jz.out Kg)).mono ?_;rintro e w1 ⟨rfl,Je⟩;have Kl:=Je.size;have Ju:w.heap.size+1<w1.heap.size:=by omega
 have ST0:=hid (show RpSt w w1.heap.size n ⟨im,dw,lf,dn⟩ A c DA dc (w1.alloc (.cells #[.int .i64 0] 27)) from by
  have ha:Below w1.heap.size w1 (w1.alloc (.cells #[.int .i64 0] 27)):=(kql _ _).alloc (kqd _) _;have Jq:=Jz.out.trans ((Je.trans (ha.mono Kl)).mono Kg);refine⟨Bx.new _ _ _,?_,(X1.out.up Je Kw).alloc _,.inl ⟨HI.out.below Jq,HQ.out.below Jq⟩,HN.out,hc,Kf.out,Jq⟩;dsimp only;rw[HM.out];exact (X0.out.up Je Kx).alloc _)
 clear Je Jp HI HQ X0 X1;go_wp2_with fail;go_loopw [26] (λi wr=>∃k:Nat,k<=l.length/\i=.int .i64 k/\Hid (RpSt w w1.heap.size n ⟨im,dw,lf,dn⟩ A c DA dc wr)) (λi _=>l.length-(RowKit.intOf i).toNat)
 case atStart=>exact⟨0,kqy _,rfl,ST0⟩
 obtain⟨k,hk,rfl,HS⟩:=hrel;by_cases G:k<l.length
 .obtain ⟨b,off,rfl,hb,h0,h1⟩:=RdE.at_ (show RdE wr w.heap.size B l from HE.out.below HS.out.below) G;have hr:=Jk.out _ (kqp G);obtain⟨x,hx⟩:=xq (l[k]);rw[hx] at h0 h1 hr;obtain⟨xa,xv⟩:=x;dsimp only at h0 h1 hr;have hd1:decide (xa<0)=false:=by rw[kqh];omega
  have Ka:decide ((n:Int)<=xa)=false:=by rw[kqh];omega
  obtain⟨d0,-,-,-,-,-,-,-,hgd⟩:=HS.out.bd.c4;have ik1:(0:Int)<=(k:Int):=by omega
  have ik2:(k:Int)<(l.length:Int):=by omega
  have Ja:=hid (HS.out.alloc (.cells #[.int .i64 xa,.int .u64 (xv:Int)] 89));clear hx hr;go_wp2;go_roundw
  case rel=>exact⟨k+1,by omega,by go_num,Ja⟩
  case measure=>simp[RowKit.intOf];omega
 obtain rfl:k=l.length:=by omega
 go_wp2_with fail;go_loopw [46] (λi wr=>∃(k:Nat) (d2:Dv) (A2 E:Option Addr) (c2 T:Nat),k<=l.length/\i=.int .i64 k/\Hid (nP ⟨im,dw,lf,dn⟩ (l.take k)=d2)/\Hid (RpSt w w1.heap.size n d2 A2 c2 E T wr)) (λi _=>l.length-(RowKit.intOf i).toNat)
 case atStart=>exact⟨0,_,_,_,_,_,kqy _,rfl,hid rfl,HS⟩
 obtain⟨k,d2,A2,E,c2,T,hk,rfl,y,f⟩:=hrel;by_cases G:k<l.length
 .obtain ⟨b,off,rfl,hb,h0,h1⟩:=RdE.at_ (show RdE wr w.heap.size B l from HE.out.below f.out.below) G;have hr:=Jk.out _ (kqp G);have Jl:=HV.out _ (kqp G);have Ji:=hid (Bp (d:=⟨im,dw,lf,dn⟩) G);rw[y.out] at Ji;obtain⟨x,hx⟩:=xq (l[k]);rw[hx] at h0 h1 hr Jl Ji;obtain⟨xa,xv⟩:=x;dsimp only at h0 h1 hr Jl Ji;obtain⟨a,rfl⟩:=kq1 hr.1;have Kj:a<n:=by omega
  obtain⟨q,g,C,t⟩:=d2;have ik1:(0:Int)<=(k:Int):=by omega
  have ik2:(k:Int)<(l.length:Int):=by omega
  have Jc:=hid (f.out.alloc (.cells #[.int .i64 (a:Int),.int .u64 (xv:Int)] 89));have HWN:Hid (∃W,W=wr.alloc (.cells #[.int .i64 (a:Int),.int .u64 (xv:Int)] 89)):=hid ⟨_,rfl⟩;have Jg:=(ox f.out.ok).1;dsimp only at Jg;have p:=hid (λW (h:RdW W W.heap.size A2 q) (h2:RdQ W W.heap.size E g)=>zq A2 E q g C t n c2 g.length T a xv W f.out.len rfl f.out.ok Kj Jl (by omega) h h2);unfold mh at p;have s:=hid (uq (a:=(a:Int)) (v:=xv) f.out.ok (by omega) (by rw[f.out.len];omega));have z:=hid ((congrArg List.length (qE ⟨q,g,C,t⟩ (a:Int) xv)).trans f.out.len);obtain⟨d3,o⟩:∃d3,dvS ⟨q,g,C,t⟩ (a:Int) xv=d3:=⟨_,rfl⟩;rw[o] at p s z Ji;rw[z.out] at p;have hd:=Jc.out.bd;dsimp only at hd;have D:=hid hd;have R:=hid (Jc.out.at_.rd Jc.out.below.size);clear hx hr Jl o hd y f;go_wp2_with (first
   | ((with_reducible refine aM 79 (.tmp 2) ?_);refine ldD D.out ?_))
  refine (p.out _ R.out.1 R.out.2).mono ?_;rintro e w2 ⟨⟨_,rfl,A3,c3,H,I,rfl,Jb,P,O⟩,r⟩;obtain⟨im3,L,M,N⟩:=d3;have Eq:=hid P;have Jd:=hid O;have Jh:=hid r;have U:=hid (D.out.up r D.out.lt);have Y:=hid (Jc.out.be.up r Jc.out.be.lt);have Z:=hid (Av w1.heap.size w.heap.size _ A3 H M N n c3 L.length I w2 rfl Y.out U.out (by omega));clear P O r;dsimp only at Z |-;go_wp2_with fail;refine Z.out.mono ?_;rintro e w3 ⟨rfl,V,o,F⟩;have Q:=hid (Jc.out.do_ Jh.out Ju Eq.out Jd.out Jb z.out s.out V o F);clear V o F;go_wp2;go_roundw
  case rel=>exact⟨k+1,_,_,_,_,_,by omega,by go_num,Ji,Q⟩
  case measure=>simp[RowKit.intOf];omega
 obtain rfl:k=l.length:=by omega
 rw[kzn] at y;have Ki:=hid (λW (h:RdE W W.heap.size B l)=>Hl B l lc l.length W rfl (by omega) h (λk hk=>by rw[fd l k hk];have:=Jk.out _ (kqp hk);omega));have Ks:=uz;go_wp2_with fail;refine (Ki.out _ (HE.out.up f.out.below f.out.below.size)).mono ?_;rintro e w4 ⟨⟨cs,rfl,Kb⟩,Jw⟩;have Jm:=hid Kb;have Jr:=hid (f.out.up Jw);have L0:=hid (Bx.new w4 156 jY);obtain⟨dS,Js⟩:∃dS,nP ⟨im,dw,lf,dn⟩ l=dS:=⟨_,rfl⟩;rw[Js] at y;have Ko:=hid Js;have Ka:=y.out;subst Ka;clear Kb Jw Ki Js y;go_wp2_with (((with_reducible refine aq 156 (.tmp 12) _ ?_);refine ak rfl _ _ _ rfl w4.heap.size 156 jY cs (by rfl) (by rfl) L0.out (by rw[Jm.out.1];rfl) (by rw[Jm.out.1];exact If) (vB Jm.out) ?_;intro w5 Kh Kd;have L5:=hid Kh;have Km:=hid (Jr.out.up (Kd.below ((kql w4.heap.size w4).alloc (kqd _) (.cells jY 156)) (kqd _)));clear Kh Kd));have hgL:w1.heap.size<w4.heap.size:=Jr.out.be.lt;clear Ks L0 Jr f;go_loopw [63] (λi wr=>∃(k:Nat) (d2:Dv) (A2 E:Option Addr) (c2 T:Nat),k<=256/\i=.int .i64 k/\Hid (kM (cE l) dS k=d2)/\Hid (RpSt w w1.heap.size n d2 A2 c2 E T wr)/\Hid (Bx wr w4.heap.size 156 cs)) (λi _=>256-(RowKit.intOf i).toNat)
 case atStart=>exact⟨0,_,_,_,_,_,kqy _,rfl,hid rfl,Km,L5⟩
 obtain⟨k,d2,A2,E,c2,T,hk,rfl,y,f,HL⟩:=hrel;have ik1:(0:Int)<=(k:Int):=by omega
 by_cases G:k<256
 .have ik2:(k:Int)<256:=by omega
  have J:=HL.out.cell k;rw[Jm.out.2 k G] at J;cases hs:dy (cE l) (8*(k:Int)) l.length
  .have Ja:Hid (kM (cE l) dS (k+1)=d2):=hid (by unfold kM;rw[da,hs,if_neg (by simp)];exact y.out);rw[hs] at J;clear hs;go_wp2;go_roundw
   case rel=>exact⟨k+1,_,_,_,_,_,by omega,by go_num,Ja,f,HL⟩
   case measure=>simp[RowKit.intOf];omega
  have Kq:8*k<n:=by obtain⟨j,hj,ej⟩:=Im hs;rw[fd l j hj] at ej;have:=Jk.out _ (kqp hj);have h8:=(aa _).1 ((bH _).1 Kf.out).1;dsimp only at h8;rw[HN.out] at h8;omega
  have Ja:Hid (kM (cE l) dS (k+1)=dvF d2 (8*(k:Int))):=hid (by unfold kM;rw[da,hs,if_pos rfl,y.out]);rw[hs] at J;obtain⟨q,g,C,t⟩:=d2;have Jg:=(ox f.out.ok).1;dsimp only at Jg;have e8:((8*k:Nat):Int)=8*(k:Int):=by omega
  have hw8:IntKind.i64.wrap (8*(k:Int))=8*(k:Int):=kqs _ (by omega);have p:=hid (λW (h:RdW W W.heap.size A2 q) (h2:RdQ W W.heap.size E g)=>Ax A2 E q g C t n c2 g.length T (8*k) W f.out.len rfl f.out.ok Kq (by omega) h h2);unfold mh at p;rw[e8] at p;have s:=hid (E7 (a:=8*(k:Int)) f.out.ok);have z:=hid ((congrArg List.length (Fj ⟨q,g,C,t⟩ (8*(k:Int)))).trans f.out.len);obtain⟨d3,o⟩:∃d3,dvF ⟨q,g,C,t⟩ (8*(k:Int))=d3:=⟨_,rfl⟩;rw[o] at p s z Ja;rw[z.out] at p;have hd:=f.out.bd;dsimp only at hd;have D:=hid hd;have R:=hid (f.out.at_.rd f.out.below.size);clear hs o hd y e8;go_wp2_with (first
   | ((with_reducible refine aM 79 (.tmp 2) ?_);refine ldD D.out ?_))
  refine (p.out _ R.out.1 R.out.2).mono ?_;rintro e w6 ⟨⟨_,rfl,A3,c3,H,I,rfl,Jb,P,O⟩,r⟩;obtain⟨im3,L,M,N⟩:=d3;have Eq:=hid P;have Jd:=hid O;have Jh:=hid r;have U:=hid (D.out.up r D.out.lt);have Y:=hid (f.out.be.up r f.out.be.lt);have Kk:=hid (HL.out.up r HL.out.lt);have Z:=hid (Av w1.heap.size w.heap.size _ A3 H M N n c3 L.length I w6 rfl Y.out U.out (by omega));clear P O r p J;dsimp only at Z |-;go_wp2_with fail;refine Z.out.mono ?_;rintro e w7 ⟨rfl,V,o,F⟩;have Q:=hid (f.out.do_ Jh.out Ju Eq.out Jd.out Jb z.out s.out V o F);have Kv:=hid (F.bx Kk.out (by omega) (by omega));clear V o F;go_wp2;go_roundw
  case rel=>exact⟨k+1,_,_,_,_,_,by omega,by go_num,Ja,Q,Kv⟩
  case measure=>simp[RowKit.intOf];omega
 obtain rfl:k=256:=by omega
 obtain⟨q,g,C,t⟩:=d2;have Jg:=(ox f.out.ok).1;dsimp only at Jg;have p:=hid (λW (h:RdW W W.heap.size A2 q) (h2:RdQ W W.heap.size E g)=>AZ A2 E q g C t n c2 g.length T W f.out.len rfl f.out.ok (by omega) h h2);unfold mh at p;have s:=hid (E6 f.out.ok);have z:=hid ((zx ⟨q,g,C,t⟩).trans f.out.len);have HR:Hid (rpP ⟨im,dw,lf,dn⟩ l=dvN ⟨q,g,C,t⟩):=hid (by unfold rpP;rw[Ko.out,y.out]);obtain⟨d3,o⟩:∃d3,dvN ⟨q,g,C,t⟩=d3:=⟨_,rfl⟩;rw[o] at p s z HR;rw[z.out] at p;have hd:=f.out.bd;dsimp only at hd;have D:=hid hd;have R:=hid (f.out.at_.rd f.out.below.size);clear o hd y G hk ik1;go_wp2_with (first
  | ((with_reducible refine aM 79 (.tmp 2) ?_);refine ldD D.out ?_))
 refine (p.out _ R.out.1 R.out.2).mono ?_;rintro e w6 ⟨⟨_,rfl,A3,c3,H,I,rfl,Jb,P,O⟩,r⟩;obtain⟨im3,L,M,N⟩:=d3;have Eq:=hid P;have Jd:=hid O;have Jh:=hid r;have U:=hid (D.out.up r D.out.lt);have Y:=hid (f.out.be.up r f.out.be.lt);have Z:=hid (Av w1.heap.size w.heap.size _ A3 H M N n c3 L.length I w6 rfl Y.out U.out (by omega));clear P O r p;dsimp only at Z |-;go_wp2_with fail;refine Z.out.mono ?_;rintro e w7 ⟨rfl,V,o,F⟩;have Q:=hid (f.out.do_ Jh.out Ju Eq.out Jd.out Jb z.out s.out V o F);have Kn:=hid (F.own (ao Eq.out (show w1.heap.size+1<=wr.heap.size from f.out.be.lt)) (by omega) (by omega));have Ku:=hid (F.own (ao Jd.out (show w1.heap.size+1<=wr.heap.size from f.out.be.lt)) (by omega) (by omega));clear V o F;go_wp2_with fail;obtain⟨W7,Kc⟩:=xq w7.drew;have DB:=hid (show Bx w7.drew _ _ _ from Q.out.bd);have EB:=hid (show Bx w7.drew _ _ _ from Q.out.be);have RB:=hid (show Bx w7.drew _ _ _ from Q.out.br);have BB:=hid (Q.out.below.drew);have Ke:=hid (show w7.drew.ownsRow _ _ _ _ _ _ from Kn.out);have Jt:=hid (show w7.drew.ownsRow _ _ _ _ _ _ from Ku.out);dsimp only at DB EB RB Jt
 refine kzp (S:=λX:World=>Bx X w.heap.size 79 #[.slice A3 n c3,.slice H L.length I,.int .i64 M,.bool N]/\Bx X w1.heap.size 27 #[.int .i64 0]) (by kernel_rfl) ⟨DB.out,EB.out⟩ (λJf=>?_);rw[Kc] at DB EB RB BB Ke Jt Jf |-;clear Kc;show wpAnyH _ _ _ _ _ 4 #[false,false,false,false] _ _;refine tk 0 (.agg #[.slice A3 n c3,.slice H L.length I,.int .i64 M,.bool N]) ?_ ?_
 .intro X hX;exact px 79 (.tmp 2) rfl w.heap.size (by rfl) 79 _ _ hX.1 underlying79 (by rfl) jP
 dsimp only[Act.put,kqg,kqc,kqb,kqa,kqf,kqe];refine tk 1 (.int .i64 0) ?_ ?_
 .intro X hX;obtain⟨e0,-,-⟩:=hX.2.c1;go_simp
 dsimp only[Act.put,kqg,kqc,kqb,kqa,kqf,kqe];refine kzx (rs:=[2]) (by kernel_rfl) (by simp) ?_;refine AllReadyH.cons rfl (λK hK=>?_) AllReadyH.nil;rw[if_pos (by kernel_rfl)];refine qG 79 (.tmp 4) _ rfl (w.heap.size+1) 79 #[.slice none 0 0,.slice none 0 0,.int .i64 0,.bool false] #[.slice A3 n c3,.slice H L.length I,.int .i64 M,.bool N] (by rfl) (by rfl) RB.out rfl jP (by simp[Value.oneCell']) ?_;intro W8 Jv Jj;refine hK.out _ _ ⟨Jj.bx DB.out (by omega),Jj.bx EB.out (by omega)⟩ (λKt=>?_);have Ky:=hid Jv;have Jo:=hid Jj;clear hK K Jv Jj Jf;refine tj 3 (.int .i64 0) ?_;dsimp only[Act.put,kqg,kqc,kqb,kqa,kqf,kqe];clear Kt;refine kxj (by kernel_rfl) ?_ _;go_wp2_with fail;refine kqr (v:=.tuple #[.agg #[.slice A3 n c3,.slice H L.length I,.int .i64 M,.bool N],.int .i64 0]) (a9 results128 _ Ky.out rfl rfl rfl) rfl ⟨⟨_,rfl,by
  rw[HR.out];unfold mh;dsimp only;rw[show im3.length=n from z.out];exact⟨A3,c3,H,I,rfl,Jb,ao (ap Ke.out Jo.out (by omega)) (by omega),ao (ap Jt.out Jo.out (by omega)) (by omega)⟩⟩,Jo.out.below BB.out (by omega)⟩
section
variable {w wr wr':World} {gE n c dc:Nat} {d:Dv} {A DA:Option Addr}
theorem RpSt.setE(h:RpSt w gE n d A c DA dc wr)(hE:w.heap.size+1<gE):RpSt w gE n d A c DA dc (wr.setCell ⟨gE,0,none⟩ (.int .i64 0)):=by
 refine⟨h.be.set_ 0 _,h.bd.far (p:=⟨gE,0,none⟩) (show w.heap.size≠gE by omega) _,h.br.far (p:=⟨gE,0,none⟩) (show w.heap.size+1≠gE by omega) _,?_,h.len,h.cap,h.ok,h.below.setCell (p:=⟨gE,0,none⟩) (show w.heap.size<=gE by omega) _⟩;rcases h.at_ with a|a
 .exact .inl ⟨a.1.set_ (p:=⟨gE,0,none⟩) (show w.heap.size<=gE by omega) _,a.2.set_ (p:=⟨gE,0,none⟩) (show w.heap.size<=gE by omega) _⟩
 exact .inr ⟨au a.1 (p:=⟨gE,0,none⟩) (bK a.1 (kjw gE)).symm _,au a.2 (p:=⟨gE,0,none⟩) (bK a.2 (kjw gE)).symm _⟩
end
theorem vc(B:Option Addr)(l:List En)(ln lc gE n:Nat)(im:List Nat)(dw:List Dw)(lf:Int)(dn:Bool)(A:Option Addr)(c:Nat)(DA:Option Addr)(dc:Nat)(w wr:World)(hs:RpSt w gE n ⟨im,dw,lf,dn⟩ A c DA dc wr)(hln:l.length=ln)(h64:ln<=64)(hin:mD n l)(hv:∀e∈l,e.v<18446744073709551616)(hE:w.heap.size+1<gE)(he:RdE wr wr.heap.size B l):
 Calls prog 127 #[.slice B ln lc,.pointer (some ⟨gE,0,none⟩),.pointer (some ⟨w.heap.size,0,none⟩)] wr λe w'=>e=.returned (.tuple #[])/\∃A2 c2 DA2 dc2,RpSt w gE n (rpP ⟨im,dw,lf,dn⟩ l) A2 c2 DA2 dc2 w'/\w'.ownsRow (gE+1) 53 1 (.slice A2 n c2) n ((rpP ⟨im,dw,lf,dn⟩ l).im.flatMap ab)/\w'.ownsRow (gE+1) 92 3 (.slice DA2 (rpP ⟨im,dw,lf,dn⟩ l).dw.length dc2) (rpP ⟨im,dw,lf,dn⟩ l).dw.length ((rpP ⟨im,dw,lf,dn⟩ l).dw.flatMap Dw.cells):=by
 have u:=hid hs;have k:=hid (FX A DA B im dw lf dn n c dw.length dc l ln lc wr hs.len rfl hs.cap hs.ok hln h64 hin hv (hs.at_.rd hs.below.size).1 (hs.at_.rd hs.below.size).2 he);unfold mh at k;have g:=hid (oD hs.ok (l:=l) (by rw[hs.len];exact hin));have C:=hid ((lz ⟨im,dw,lf,dn⟩ l).trans hs.len);obtain⟨D,q⟩:∃D,rpP ⟨im,dw,lf,dn⟩ l=D:=⟨_,rfl⟩;rw[q] at k g C |-;rw[C.out] at k;obtain⟨S,Q,hge⟩:=hs.be.c1;have J:=hs.bd;dsimp only at J;have b:=hid J;clear hs hln hin hv he q J;go_enter func127,ntmps127;go_wp2_with (first
  | ((with_reducible refine aM 79 (.tmp 2) ?_);refine ldD b.out ?_))
 refine k.out.mono ?_;rintro e P ⟨⟨_,rfl,K,L,h,r,rfl,y,j,o⟩,a⟩;obtain⟨im3,F,H,I⟩:=D;have d:=hid j;have i:=hid o;have G:=hid a;have T:=hid (b.out.up a b.out.lt);have O:=hid (u.out.be.up a u.out.be.lt);have E:gE≠w.heap.size:=by omega
 have t:w.heap.size≠gE:=by omega
 clear j o a k S Q;dsimp only;go_wp2_with (((with_reducible refine aq 79 (.tmp 2) _ ?_);refine ak rfl _ _ _ rfl w.heap.size 79 _ #[.slice K n L,.slice h F.length r,.int .i64 H,.bool I] (by rfl) (by rfl) T.out rfl jP (by simp[Value.oneCell']) ?_;intro x m f;have R:=hid m;have M:=hid f;clear m f;have N:=hid (M.out.bx O.out E);obtain⟨u0,uf,-⟩:=N.out.c1));go_end0;have z:Two P (x.setCell ⟨gE,0,none⟩ (.int .i64 0)) w.heap.size gE:=⟨x,M.out.grown,eB (vs:=[.int .i64 0]) (dI (kql x.heap.size x))⟩;have s:gE+1<=wr.heap.size:=u.out.be.lt;exact⟨rfl,K,L,h,r,u.out.do_ G.out hE d.out i.out y C.out g.out (N.out.set_ 0 (.int .i64 0)) (R.out.far (p:=⟨gE,0,none⟩) t _) z,z.own (ao d.out s) (by omega) (by omega),z.own (ao i.out s) (by omega) (by omega)⟩
theorem mrg{F P:Nat->Nat->World->Prop}{Q:Prop}(h1:(∀g c w,F g c w->P g c w)->Q)(h2:∀g c w,F g c w->P g c w):Q:=h1 h2
theorem EE(ho:∀e∈l,e.ok):∀v∈cn l,v<18446744073709551616:=vf ho
theorem xJ(A DA B:Option Addr)(im:List Nat)(dw:List Dw)(lf:Int)(dn:Bool)(n c m dc:Nat)(l:List En)(ln lc:Nat)(w:World)(hn:im.length=n)(hm:dw.length=m)(hc:n<=c)(hok:eW ⟨im,dw,lf,dn⟩=true)(hln:l.length=ln)(h0:0<ln)(h32:ln<=32)(hent:eh (cE l) (n:Int)=0)(h24:wd (dvV ⟨im,dw,lf,dn⟩) 24=0)(hin:mD n l)(ho:∀e∈l,e.ok)(hi:RdW w w.heap.size A im)(hr:RdQ w w.heap.size DA dw)(o:RdE w w.heap.size B l):
 Calls prog 82 #[.agg #[.slice A n c,.slice DA m dc,.int .i64 lf,.bool dn],.slice B ln lc] w λe w'=>(∃u,e=.returned (.tuple #[u,.int .i64 0])/\mh w' w.heap.size (atM ⟨im,dw,lf,dn⟩ l) u)/\Below w.heap.size w w':=by
 have hb:=ox hok;dsimp only at hb;rw[hn,hm] at hb;obtain⟨hb1,hb2,hb3⟩:=hb;have Jz:l≠[]:=λe=>by rw[e] at hln;simp at hln;omega
 have Jl:=hid (oX (d:=⟨im,dw,lf,dn⟩) Jz);have E:=hid (λW (h:RdW W W.heap.size A im) (h2:RdQ W W.heap.size DA dw)=>qa A DA im dw lf dn n c m dc W hn hm (by omega) (by omega) h h2);unfold DZ at E;rw[jH hok] at E;have Lj:(dvV ⟨im,dw,lf,dn⟩).length=n:=(kg _).trans hn;dsimp only at E;rw[hn] at E;have Eq:=hid (λW (h:RdE W W.heap.size B l)=>oU B l lc ln (n:Int) W hln (by omega) h ho);unfold B8 at Eq;rw[hent,show dZ l (n:Int)=cn l by simp[dZ,hent]] at Eq;have Jc:(cn l).length=2*ln:=by rw[ib,hln]
 rw[Jc] at Eq;have Jt:=hid Jc;have Lv:=hid (λW (h:RdE W W.heap.size B l)=>CK B l lc ln (n:Int) W hln h0 h32 hent h ho);have Mu:=hid (λB2 c2 W (h:RdW W W.heap.size B2 (cn l))=>tW B2 (cn l) c2 (2*ln) 32 W Jc (by omega) (by omega) h);have Li:=hid (λB2 c2 v W (h:RdW W W.heap.size B2 [v])=>tW B2 [v] c2 1 24 W rfl (by omega) (by omega) h);have Mi:=hid (Ff (l:=l) (by omega));have Mp:=hid (EE ho);have I:=hid (λ(W:World) (h:RdW W W.heap.size A im)=>qk A im c n W.heap.size W hn (by omega) (by omega) h (kqd _));unfold xT at I;rw[hn] at I;have Je:=hid (λW (h:RdQ W W.heap.size DA dw)=>uZ DA dw dc m W hm (by omega) h);unfold OwnQ at Je;rw[hm] at Je;obtain⟨W0,Mg,x0,x1,Kw,Mj⟩:=mL w A DA lf dn n c m dc;have X0:=hid x0;have X1:=hid x1;have Jf:=hid Kw;have HI:=hid hi;have HQ:=hid hr;have HE:=hid o;have HN:=hid hn;have HM:=hid hm;have Lr:=hid hok;have Me:=hid hin;have Mb:=hid h24;have Mn:=hid Lj;have Mt:=hid hln;have Mf:=hid (λe o=>(ho e o).2.2);have Ks:w.heap.size<=W0.heap.size:=by omega
 have Mw:w.heap.size<W0.heap.size:=by omega
 have Mv:w.heap.size+1<W0.heap.size:=by omega
 have hl0:((ln:Int)==0)=false:=by rw[kqi];omega
 clear hi hr o x0 x1 Kw Mj hn hm hok hin h24 Lj hln ho hent Jz Jc;go_enter func82,ntmps82;go_wp2_with (first
  | ((with_reducible refine aM 79 (.tmp 2) ?_);refine ldD X0.out ?_))
 clear Mg;refine (E.out W0 (HI.out.up Jf.out Ks) (HQ.out.up Jf.out Ks)).mono ?_;rintro e b ⟨⟨Ln,-⟩,M⟩;obtain⟨gv,cv,rfl,N⟩:=Ln (by trivial);have Ma:=M.size;have L:w.heap.size+1<b.heap.size:=by omega
 have J:=hid (show RpSt w b.heap.size n ⟨im,dw,lf,dn⟩ A c DA dc (b.alloc (.cells #[.int .i64 0] 27)) from by
  have ha:Below b.heap.size b (b.alloc (.cells #[.int .i64 0] 27)):=(kql _ _).alloc (kqd _) _;have Km:=Jf.out.trans ((M.trans (ha.mono Ma)).mono Ks);refine⟨Bx.new _ _ _,?_,(X1.out.up M Mv).alloc _,.inl ⟨HI.out.below Km,HQ.out.below Km⟩,HN.out,hc,Lr.out,Km⟩;dsimp only;rw[HM.out];exact (X0.out.up M Mw).alloc _)
 have Kx:=hid (show RdW b b.heap.size (some ⟨gv,0,none⟩) (dvV ⟨im,dw,lf,dn⟩) from Rd.of_own N);clear Ln N M E X0 X1;have Lu:=hid (show RdW (b.alloc (.cells #[.int .i64 0] 27)) b.heap.size (some ⟨gv,0,none⟩) (dvV ⟨im,dw,lf,dn⟩) from Kx.out.alloc (kqd _) _);have hz2:(b.alloc (.cells #[.int .i64 0] 27)).heap.size=b.heap.size+1:=kqm _ _;go_wp2_with fail;refine (Eq.out _ (HE.out.up J.out.below J.out.below.size)).mono ?_;rintro e w2 ⟨⟨B2,c2,rfl,Ku⟩,Ja⟩;have ST2:=hid ((J.out.up Ja).setE L);have Jh:=hid ((Lu.out.below (Ja.mono (by omega))).set_ (p:=⟨b.heap.size,0,none⟩) (kqd _) (.int .i64 0));have Kr:=hid (ao (au Ku (p:=⟨b.heap.size,0,none⟩) (bK Ku (show b.heap.size<(b.alloc (.cells #[.int .i64 0] 27)).heap.size by omega)).symm (.int .i64 0)) (show b.heap.size+1<=(b.alloc (.cells #[.int .i64 0] 27)).heap.size by omega));obtain⟨W2,Kq⟩:∃W,w2.setCell ⟨b.heap.size,0,none⟩ (.int .i64 0)=W:=⟨_,rfl⟩;rw[Kq] at ST2 Jh Kr;have Lf:Hid (b.heap.size+1<=W2.heap.size):=hid (by rw[<-Kq,kxb];have:=Ja.size;omega);obtain⟨bV,oV,Jg,hbV,v24⟩:=RdW.at_ (l:=dvV ⟨im,dw,lf,dn⟩) Jh.out (show 24<(dvV ⟨im,dw,lf,dn⟩).length by rw[Mn.out];omega);obtain⟨rfl,rfl⟩:gv=bV/\0=oV:=by injection Jg with Jg;injection Jg with h1 h2 h3;exact⟨h1,h2⟩
 rw[<-cq,Mb.out] at v24;have Lt:=hid (Rd.more Jh.out (show b.heap.size<=W2.heap.size by have:=Lf.out;omega));obtain⟨e0,ef0,Lz⟩:=ST2.out.be.c1;obtain⟨f0,ff0,V⟩:=(J.out.be.up Ja J.out.be.lt).c1;clear Ja Ku J Kx Lu Jg;go_wp2_with fail;have q:=hid (ST2.out.up ((kql _ _).drew));have Mq:=hid (show RdW W2.drew W2.drew.heap.size _ _ from Lt.out);have Kt:=hid (show W2.drew.ownsRow _ _ _ _ _ _ from Kr.out);have Kn:Hid (b.heap.size+1<=W2.drew.heap.size):=hid Lf.out;obtain⟨X0,Lk⟩:=xq W2.drew;refine kzp (S:=λ_=>True) (by kernel_rfl) trivial (λhT=>?_);rw[Lk] at q Mq Kt Kn |-;clear Lk Kq e0 ef0 Lz f0 ff0 V v24 ST2 Lt Kr Jh;obtain⟨d0,d1,d2,d3,df0,df1,df2,df3,Mm⟩:=q.out.bd.c4;dsimp only at d1;rw[HM.out] at d1;have Lm:=hid q.out.below.size;have Ji:=hid ((q.out.at_.rd Lm.out).1);have Kz:=hid ((q.out.at_.rd Lm.out).2);dsimp only at Ji Kz;show wpAnyH _ _ _ _ _ 10 #[false,false,false,false,false,false,false,false,false,false] _ _;refine tj 0 (.pointer (some ⟨w.heap.size,0,none⟩)) ?_;dsimp only[Act.put,kqg,kqc,kqb,kqa,kqf,kqe];refine tj 3 (.pointer (some ⟨w.heap.size,1,none⟩)) ?_;dsimp only[Act.put,kqg,kqc,kqb,kqa,kqf,kqe];refine' mrg (F:=λg3 c3 w3=>Hid (Below X0.heap.size X0 w3/\w3.ownsRow X0.heap.size 53 1 (.slice (some ⟨g3,0,none⟩) n c3) n (im.flatMap ab))) ?h1 ?h2
 case h1 =>
  intro H;refine kzx (rs:=[1,4]) (by kernel_rfl) (by simp) ?_;refine AllReadyH.cons rfl (λK f=>?_) (AllReadyH.cons rfl (λK f=>?_) AllReadyH.nil)
  .rw[if_pos (by kernel_rfl)];go_simp;refine f.out _ _ trivial (λhT=>?_);clear f K;(try dsimp only[Act.put,kqg,kqc,kqb,kqa,kqf,kqe]);refine kzx (rs:=[2,4]) (by kernel_rfl) (by simp) ?_;refine AllReadyH.cons rfl (λK f=>?_) (AllReadyH.cons rfl (λK f=>?_) AllReadyH.nil)
   .rw[if_pos (by kernel_rfl)];go_simp;refine (I.out X0 Ji.out).mono ?_;rintro e w3 ⟨g3,c3,rfl,a,g⟩;go_simp;refine f.out _ _ trivial (λhT=>?_);clear f K;(try dsimp only[Act.put,kqg,kqc,kqb,kqa,kqf,kqe]);have e1:=(g.cell (p:=⟨w.heap.size,1,none⟩) Mm).trans d1;refine kzx (rs:=[4]) (by kernel_rfl) (by simp) ?_;refine AllReadyH.cons rfl (λK f=>?_) AllReadyH.nil;rw[if_pos (by kernel_rfl)];go_simp;refine f.out _ _ trivial (λhT=>?_);clear f K;(try dsimp only[Act.put,kqg,kqc,kqb,kqa,kqf,kqe]);exact H _ _ _ (hid ⟨g,a⟩)
   rw[if_pos (by kernel_rfl)];go_simp;refine f.out _ _ trivial (λhT=>?_);clear f K;(try dsimp only[Act.put,kqg,kqc,kqb,kqa,kqf,kqe]);refine kzx (rs:=[2]) (by kernel_rfl) (by simp) ?_;refine AllReadyH.cons rfl (λK f=>?_) AllReadyH.nil;rw[if_pos (by kernel_rfl)];go_simp;refine (I.out X0 Ji.out).mono ?_;rintro e w3 ⟨g3,c3,rfl,a,g⟩;go_simp;refine f.out _ _ trivial (λhT=>?_);clear f K;(try dsimp only[Act.put,kqg,kqc,kqb,kqa,kqf,kqe]);exact H _ _ _ (hid ⟨g,a⟩)
  rw[if_pos (by kernel_rfl)];go_simp;refine f.out _ _ trivial (λhT=>?_);clear f K;(try dsimp only[Act.put,kqg,kqc,kqb,kqa,kqf,kqe]);refine kzx (rs:=[1]) (by kernel_rfl) (by simp) ?_;refine AllReadyH.cons rfl (λK f=>?_) AllReadyH.nil;rw[if_pos (by kernel_rfl)];go_simp;refine f.out _ _ trivial (λhT=>?_);clear f K;(try dsimp only[Act.put,kqg,kqc,kqb,kqa,kqf,kqe]);refine kzx (rs:=[2]) (by kernel_rfl) (by simp) ?_;refine AllReadyH.cons rfl (λK f=>?_) AllReadyH.nil;rw[if_pos (by kernel_rfl)];go_simp;refine (I.out X0 Ji.out).mono ?_;rintro e w3 ⟨g3,c3,rfl,a,g⟩;go_simp;refine f.out _ _ trivial (λhT=>?_);clear f K;(try dsimp only[Act.put,kqg,kqc,kqb,kqa,kqf,kqe]);exact H _ _ _ (hid ⟨g,a⟩)
 case h2 =>
  intro g3 c3 w3 HF;(try dsimp only);obtain⟨g,a⟩:=HF.out;refine tj 6 (.pointer (some ⟨w.heap.size,0,none⟩)) ?_;dsimp only[Act.put,kqg,kqc,kqb,kqa,kqf,kqe];refine kzx (rs:=[5]) (by kernel_rfl) (by simp) ?_;refine AllReadyH.cons rfl (λK f=>?_) AllReadyH.nil;rw[if_pos (by kernel_rfl)];go_simp;refine (Je.out w3 (Kz.out.up g g.size)).mono ?_;rintro e w4 ⟨A5,c5,rfl,P,Kl⟩;go_simp;refine f.out _ _ trivial (λMo=>?_);clear f K;(try dsimp only[Act.put,kqg,kqc,kqb,kqa,kqf,kqe]);have D:=g.trans (Kl.mono g.size);have hz34:=D.size;have G:=hid (q.out.up D);have Lb:=hid (ao (ai a Kl (kqd _)) Kn.out);have Ls:=hid (ao P (kz5 Kn.out g.size));have Jd:=hid (ai Kt.out D (kqd _));obtain⟨q0,q1,q2,q3,qf0,qf1,qf2,qf3,Ml⟩:=G.out.bd.c4;dsimp only at q1;rw[HM.out] at q1;clear d0 d1 d2 d3 df0 df1 df2 df3 g a P Kl HF D;refine kzx (rs:=[7]) (by kernel_rfl) (by simp) ?_;refine AllReadyH.cons rfl (λK f=>?_) AllReadyH.nil;rw[if_pos (by kernel_rfl)];go_simp;refine f.out _ _ trivial (λMr=>?_);clear f K;(try dsimp only[Act.put,kqg,kqc,kqb,kqa,kqf,kqe]);refine tj 8 (.pointer (some ⟨w.heap.size,1,none⟩)) ?_
  dsimp only[Act.put,kqg,kqc,kqb,kqa,kqf,kqe];refine kzx (rs:=[9]) (by kernel_rfl) (by simp) ?_;refine AllReadyH.cons rfl (λK f=>?_) AllReadyH.nil;rw[if_pos (by kernel_rfl)];go_simp;refine f.out _ _ trivial (λMh=>?_);clear f K hT Mo Mr Mh;(try dsimp only[Act.put,kqg,kqc,kqb,kqa,kqf,kqe]);refine kxj (by kernel_rfl) ?_ _;have Kd:b.heap.size≠w.heap.size:=by omega
  have i:∀ {sz k:Nat} {e:TypeId} {v:Value} {xs:List Value} {W:World},W.ownsRow (b.heap.size+1) e sz v k xs->v.ownBlock≠some w.heap.size:=λh=>(bK h (show w.heap.size<b.heap.size+1 by omega)).symm;have s:=hid (show RpSt w b.heap.size n ⟨im,dw,lf,dn⟩ (some ⟨g3,0,none⟩) c3 A5 c5 ((w4.setCell ⟨w.heap.size,0,none⟩ (.slice (some ⟨g3,0,none⟩) n c3)).setCell ⟨w.heap.size,1,none⟩ (.slice A5 m c5)) from by
   have b1:=G.out.bd;dsimp only at b1;rw[HM.out] at b1;have o1:=Lb.out;have o2:=Ls.out;refine⟨(G.out.be.far (p:=⟨w.heap.size,0,none⟩) Kd _).far (p:=⟨w.heap.size,1,none⟩) Kd _,?_,(G.out.br.far (p:=⟨w.heap.size,0,none⟩) (show w.heap.size+1≠w.heap.size by omega) _).far (p:=⟨w.heap.size,1,none⟩) (show w.heap.size+1≠w.heap.size by omega) _,.inr ⟨?_,?_⟩,HN.out,aZ o1,Lr.out,(G.out.below.setCell (p:=⟨w.heap.size,0,none⟩) (kqd _) _).setCell (p:=⟨w.heap.size,1,none⟩) (kqd _) _⟩
   .dsimp only;rw[HM.out];exact (b1.set_ 0 (.slice (some ⟨g3,0,none⟩) n c3)).set_ 1 (.slice A5 m c5)
   .exact au (au o1 (p:=⟨w.heap.size,0,none⟩) (i o1) _) (p:=⟨w.heap.size,1,none⟩) (i o1) _
   dsimp only;rw[HM.out];exact au (au o2 (p:=⟨w.heap.size,0,none⟩) (i o2) _) (p:=⟨w.heap.size,1,none⟩) (i o2) _)
  have Jb:=hid (au (au Jd.out (p:=⟨w.heap.size,0,none⟩) (i Jd.out) (.slice (some ⟨g3,0,none⟩) n c3)) (p:=⟨w.heap.size,1,none⟩) (i Jd.out) (.slice A5 m c5));obtain⟨W5,Lx⟩:∃W,(w4.setCell ⟨w.heap.size,0,none⟩ (.slice (some ⟨g3,0,none⟩) n c3)).setCell ⟨w.heap.size,1,none⟩ (.slice A5 m c5)=W:=⟨_,rfl⟩;rw[Lx] at s Jb |-;clear Lx q0 q1 q2 q3 qf0 qf1 qf2 qf3 Ml G Lb Ls Jd Kt q;go_wp2_with fail;refine (Lv.out _ (HE.out.up s.out.below s.out.below.size)).mono ?_;rintro e w6 ⟨rfl,R⟩;have ST6:=hid ((s.out.up R).setE L);have Kv:=hid (au (ai Jb.out R (kqd _)) (p:=⟨b.heap.size,0,none⟩) (bK (ai Jb.out R (kqd _)) (kjw b.heap.size)).symm (.int .i64 0));obtain⟨f0,ff0,V⟩:=(s.out.be.up R s.out.be.lt).c1;obtain⟨W6,Lh⟩:∃W,w6.setCell ⟨b.heap.size,0,none⟩ (.int .i64 0)=W:=⟨_,rfl⟩;rw[Lh] at ST6 Kv;clear R s Jb;go_wp2_with fail;have Lc:=hid (show RdW W6 W6.heap.size B2 (cn l) from Rd.of_own Kv.out);clear Lh f0 ff0 V Kv;refine (Mu.out _ _ W6 Lc.out).mono ?_;rintro e w7 ⟨⟨A7,c7,rfl,U⟩,Ky⟩;have Le:=hid (ST6.out.up Ky);have Lw:=hid (show RdE w7 w7.heap.size A7 (lsE 32 (cn l)) from Rd.of_own U);clear U Ky ST6 Lc;have HB0':=hid (Jf.out)
  have V1:=hid (show mD n (lsE 32 (cn l))/\∀e∈lsE 32 (cn l),e.v<18446744073709551616 from ⟨λe o=>by have:=uI (cn l) 32 (n:=n) (by rw[Jt.out];omega) e o;omega,Fl _ _ Mp.out⟩);have V2:=hid (show mD n [⟨24,cmW l⟩]/\∀e∈([⟨24,cmW l⟩]:List En),e.v<18446744073709551616 from ⟨λe o=>by rw[kq0] at o;subst o;dsimp only;omega,λe o=>by rw[kq0] at o;subst o;exact Mi.out⟩);have V4:=hid (show mD n [⟨24,0⟩]/\∀e∈([⟨24,0⟩]:List En),e.v<18446744073709551616 from ⟨λe o=>by rw[kq0] at o;subst o;dsimp only;omega,λe o=>by rw[kq0] at o;subst o;decide⟩);have V3:=hid (And.intro Me.out Mf.out);have Md:=hid (show (lsE 32 (cn l)).length=2*ln by rw[F5,Jt.out]);have r:=hid Jl.out;unfold atL at r;simp only[kxy,kvq] at r;clear Jl Eq Lv I Je;go_wp2_with fail;refine (vc _ (lsE 32 (cn l)) (2*ln) _ b.heap.size n im dw lf dn _ _ _ _ w _ Le.out Md.out (by omega) V1.out.1 V1.out.2 L Lw.out).mono ?_;rintro e w9 ⟨rfl,A9,c9,DA9,dc9,Kp,-⟩;obtain⟨d9,Lq⟩:∃d,rpP ⟨im,dw,lf,dn⟩ (lsE 32 (cn l))=d:=⟨_,rfl⟩;rw[Lq] at Kp r;obtain⟨im9,dw9,lf9,dn9⟩:=d9;have Ll:=hid Kp;clear Kp Lq Le Lw;have Jk:=hid (Ll.out.alloc (.cells #[.int .u64 ((cmW l:Nat):Int)] 53))
  have Q:=hid (show RdW (w9.alloc (.cells #[.int .u64 ((cmW l:Nat):Int)] 53)) (w9.alloc (.cells #[.int .u64 ((cmW l:Nat):Int)] 53)).heap.size (some ⟨w9.heap.size,0,none⟩) [cmW l] from Rd.of_own (dh (n:=1) (sz:=1) w9 53 #[.int .u64 ((cmW l:Nat):Int)] (kqd _) (by rfl) (by unfold maxLen;omega)));go_wp2_with fail;refine (Li.out _ 1 (cmW l) _ Q.out).mono ?_;rintro e w10 ⟨⟨A10,c10,rfl,y⟩,Kg⟩;have Jj:=hid (Jk.out.up Kg);have Ka:=hid (show RdE w10 w10.heap.size A10 [⟨24,cmW l⟩] from Rd.of_own y);clear y Kg Jk Q Ll;go_wp2_with fail;refine (vc _ [⟨24,cmW l⟩] 1 _ b.heap.size n im9 dw9 lf9 dn9 _ _ _ _ w _ Jj.out rfl (by omega) V2.out.1 V2.out.2 L Ka.out).mono ?_;rintro e w11 ⟨rfl,A11,c11,DA11,dc11,Z,-⟩;obtain⟨d11,Jp⟩:∃d,rpP ⟨im9,dw9,lf9,dn9⟩ [⟨24,cmW l⟩]=d:=⟨_,rfl⟩;rw[Jp] at Z r;obtain⟨Jm,Ki,Jr,Js⟩:=d11;have C:=hid Z;clear Z Jp Jj Ka;go_wp2_with fail;refine (vc _ l ln _ b.heap.size n Jm Ki Jr Js _ _ _ _ w _ C.out Mt.out (by omega) V3.out.1 V3.out.2 L (HE.out.up C.out.below C.out.below.size)).mono ?_;rintro e w12 ⟨rfl,A12,c12,DA12,dc12,T,-⟩;obtain⟨d12,Ju⟩:∃d,rpP ⟨Jm,Ki,Jr,Js⟩ l=d:=⟨_,rfl⟩;rw[Ju] at T r;obtain⟨Kf,Kk,Jw,Kj⟩:=d12;have Jy:=hid T;clear T Ju C
  have Ke:=hid (Jy.out.alloc (.cells #[.int .u64 0] 53));have O:=hid (show RdW (w12.alloc (.cells #[.int .u64 0] 53)) (w12.alloc (.cells #[.int .u64 0] 53)).heap.size (some ⟨w12.heap.size,0,none⟩) [0] from Rd.of_own (dh (n:=1) (sz:=1) w12 53 #[.int .u64 0] (kqd _) (by rfl) (by unfold maxLen;omega)));go_wp2_with fail;refine (Li.out _ 1 (0) _ O.out).mono ?_;rintro e w13 ⟨⟨A13,c13,rfl,z⟩,Jv⟩;have Jq:=hid (Ke.out.up Jv);have Kc:=hid (show RdE w13 w13.heap.size A13 [⟨24,0⟩] from Rd.of_own z);clear z Jv Ke O Jy;go_wp2_with fail;refine (vc _ [⟨24,0⟩] 1 _ b.heap.size n Kf Kk Jw Kj _ _ _ _ w _ Jq.out rfl (by omega) V4.out.1 V4.out.2 L Kc.out).mono ?_;rintro e w14 ⟨rfl,A14,c14,Jo,Kh,Y,t,x⟩;obtain⟨d14,Kb⟩:∃d,rpP ⟨Kf,Kk,Jw,Kj⟩ [⟨24,0⟩]=d:=⟨_,rfl⟩;rw[Kb] at Y r t x;obtain⟨im14,Lo,Lg,Lp⟩:=d14;have j:=hid Y;clear Y Kb Jq Kc;obtain⟨f0,-,-⟩:=j.out.be.c1;have hd:=j.out.bd;have hl:=j.out.len;dsimp only at hd hl t x;have Ly:=hid hd;have Ms:=hid hl;have Ld:=hid t;have La:=hid x;clear hd hl t x;go_wp2_with (first
   | ((with_reducible refine aM 79 (.tmp 2) ?_);refine ldD Ly.out ?_)
   | ((with_reducible refine aq 79 (.tmp 4) _ ?_);refine stD j.out.br ?_;intro w99 Mc Ko))
  refine kqr (v:=.tuple #[.agg #[.slice A14 n c14,.slice Jo Lo.length Kh,.int .i64 Lg,.bool Lp],.int .i64 0]) (a9 results82 _ Mc.out rfl rfl rfl) rfl ⟨⟨_,rfl,by
   rw[r.out];unfold mh;dsimp only;rw[Ms.out];exact⟨A14,c14,Jo,Kh,rfl,j.out.cap,ao (ap Ld.out Ko.out (by omega)) (by omega),ao (ap La.out Ko.out (by omega)) (by omega)⟩⟩,Ko.out.below j.out.below (by omega)⟩
theorem lay_24{ws:List Nat}(h:cc ws=0):wd ws 24=0:=by obtain⟨-,b⟩:=iC h;obtain⟨t,a⟩:=nu b;exact a.z16 24 (by decide) (by decide)
def CoAt (w wr:World) (n:Nat) (d:Dv) (A:Option Addr) (c:Nat) (DA:Option Addr) (dc:Nat):Prop:=
 Bx wr w.heap.size 79 #[.slice A n c,.slice DA d.dw.length dc,.int .i64 d.left,.bool d.down]/\Bx wr (w.heap.size+1) 79 #[.slice none 0 0,.slice none 0 0,.int .i64 0,.bool false]/\n<=c/\d.im.length=n/\Below w.heap.size w wr
def CoGo (w wr:World) (n:Nat) (x0 y:List Nat) (r:Dv × Int) (d:Dv) (A:Option Addr) (c:Nat) (DA:Option Addr) (dc:Nat) (k:Nat) (vx:Value):Prop:=
 ∃E outs B lc,vx=.slice B E.length lc/\outs.length+1<k/\RnAt n x0 y d E outs/\yD (E::outs) d=r/\RdE wr wr.heap.size B E/\Fu w.heap.size (w.heap.size+2) wr A n c DA d.dw.length dc d.im d.dw
def CoEnd (w wr:World) (n:Nat) (r:Dv × Int) (d:Dv) (A:Option Addr) (c:Nat) (DA:Option Addr) (dc:Nat):Prop:=
 (d,0)=r/\wr.ownsRow (w.heap.size+2) 53 1 (.slice A n c) n (d.im.flatMap ab)/\wr.ownsRow (w.heap.size+2) 92 3 (.slice DA d.dw.length dc) d.dw.length (d.dw.flatMap Dw.cells)
theorem yP(w:World)(H:Nat):mh w H dvZ (.agg #[.slice none 0 0,.slice none 0 0,.int .i64 0,.bool false]):=⟨none,0,none,0,rfl,kqd _,uM _ _ _ _,uM _ _ _ _⟩
theorem Hz(A DA:Option Addr)(im:List Nat)(dw:List Dw)(lf:Int)(dn:Bool)(n c m dc:Nat)(w:World)(hn:im.length=n)(hm:dw.length=m)(hn2:n<=9223372036854775807)(hm2:m<=1000000)(hc:n<=c)(hlt:DvLt ⟨im,dw,lf,dn⟩)(hi:RdW w w.heap.size A im)(hr:RdQ w w.heap.size DA dw):
 Calls prog 37 #[.agg #[.slice A n c,.slice DA m dc,.int .i64 lf,.bool dn]] w λe w'=>(∃u,e=.returned (.tuple #[u,.int .i64 (coR ⟨im,dw,lf,dn⟩).2])/\mh w' w.heap.size (coR ⟨im,dw,lf,dn⟩).1 u)/\Below w.heap.size w w':=by
 have a:=hid (λW (h:RdW W W.heap.size A im) (h2:RdQ W W.heap.size DA dw)=>qa A DA im dw lf dn n c m dc W hn hm (by omega) (by omega) h h2);unfold DZ at a;have Lj:(dvV ⟨im,dw,lf,dn⟩).length=n:=(kg _).trans hn;dsimp only at a;rw[hn] at a;obtain⟨W0,Jr,x0,x1,Kx,Ly⟩:=mL w A DA lf dn n c m dc;have X0:=hid x0;have X1:=hid x1;have j:=hid Kx;have HI:=hid hi;have HQ:=hid hr;have HN:=hid hn;have HM:=hid hm;have Lm:=hid hlt;have Lz:=hid Lj;have k:w.heap.size<=W0.heap.size:=by omega
 have Kv:w.heap.size<W0.heap.size:=by omega
 have Jy:w.heap.size+1<W0.heap.size:=by omega
 have Jd:w.heap.size+1≠w.heap.size:=by omega
 clear hi hr x0 x1 Kx Ly hn hm hlt Lj;by_cases h0:ff ⟨im,dw,lf,dn⟩=0
 .rw[h0] at a;have Lq:=hid (oM h0);have Jo:=hid h0;clear h0;cases dn with
  | true =>
   have HV:Hid (coR ⟨im,dw,lf,true⟩=(dvZ,60)):=hid (by unfold coR;rw[if_pos Jo.out,if_pos rfl]);rw[HV.out];go_enter func37,ntmps37;go_wp2_with (first
    | ((with_reducible refine aM 79 (.tmp 1) ?_);refine ldD X0.out ?_))
   clear Jr;refine (a.out W0 (HI.out.up j.out k) (HQ.out.up j.out k)).mono ?_;rintro e w1 ⟨⟨t,-⟩,d⟩;obtain⟨gv,cv,rfl,-⟩:=t (by trivial);have Y0:=hid (X0.out.up d Kv);have Y1:=hid (X1.out.up d Jy);have C:=hid (j.out.trans (d.mono k));obtain⟨-,-,-,q3,-,-,-,-,hg⟩:=Y0.out.c4;clear t d a;go_wp2_with (first
    | ((with_reducible refine aq 79 (.tmp 2) _ ?_);refine stD Y1.out ?_;intro w9 y i))
   refine kqr (v:=.tuple #[.agg #[.slice none 0 0,.slice none 0 0,.int .i64 0,.bool false],.int .i64 60]) (a9 results37 _ y.out rfl rfl rfl) rfl ⟨⟨_,rfl,yP _ _⟩,i.out.below C.out (by omega)⟩
  | false =>
   have D:=hid (λB S W (Kn:n<=S) (h:RdW W W.heap.size B (dvV ⟨im,dw,lf,false⟩))=>qP B (dvV ⟨im,dw,lf,false⟩) S n W Lz.out hn2 Kn h Lm.out.v);unfold ii at D;by_cases o:cc (dvV ⟨im,dw,lf,false⟩)=0
   .rw[o,if_pos rfl] at D;have Jb:=uh Lq.out Lm.out rfl o (lay_24 o);have HV:=hid (Fe Lq.out rfl o);dsimp only at Jb;rw[HN.out] at Jb;obtain⟨ZZ,La⟩:∃Z,cpZ (dvV ⟨im,dw,lf,false⟩)=Z:=⟨_,rfl⟩;obtain⟨VV,Lf⟩:∃Z,dvV ⟨im,dw,lf,false⟩=Z:=⟨_,rfl⟩;obtain⟨N,ho⟩:∃N,(rsE (gG (dvV ⟨im,dw,lf,false⟩))).2.1=N:=⟨_,rfl⟩;rw[ho,La,Lf] at Jb;rw[ho] at HV;have Lw:=hid Jb;obtain⟨rr,Jc⟩:∃r,coR ⟨im,dw,lf,false⟩=r:=⟨_,rfl⟩;rw[Jc] at HV |-;clear Jb ho Jc o La Lf;go_enter func37,ntmps37;go_wp2_with (first
     | ((with_reducible refine aM 79 (.tmp 1) ?_);refine ldD X0.out ?_))
    clear Jr;refine (a.out W0 (HI.out.up j.out k) (HQ.out.up j.out k)).mono ?_;rintro e w1 ⟨⟨t,-⟩,d⟩;obtain⟨gv,cv,rfl,q⟩:=t (by trivial);have Y0:=hid (X0.out.up d Kv);have Y1:=hid (X1.out.up d Jy);have C:=hid (j.out.trans (d.mono k));have Kj:=aZ q;have Kq:=hid (show RdW w1 w1.heap.size _ _ from Rd.of_own q);obtain⟨-,-,-,q3,-,-,-,-,hg⟩:=Y0.out.c4;have Jk:=Y1.out.lt;clear t d a q;go_wp2_with fail;refine (D.out _ _ w1 Kj Kq.out).mono ?_;rintro e w2 ⟨⟨B2,lc2,rfl,Jh⟩,H⟩;have Z0:=hid (Y0.out.up H hg);have Z1:=hid (Y1.out.up H Jk);have Je:=hid (C.out.trans (H.mono C.out.size));have Lu:=hid (show RdE w2 w2.heap.size B2 [⟨16,1⟩] from Rd.of_own Jh);clear H Jh q3 D;go_wp2_with fail;go_loopg [6,7] (N.length+2) (λgk vx vd wr=>∃(d2:Dv) (A2 K:Option Addr) (S L:Nat),Hid (CoAt w wr n d2 A2 S K L)/\((vd=.bool false/\Hid (CoGo w wr n VV ZZ rr d2 A2 S K L gk vx))\/(vd=.bool true/\Hid (CoEnd w wr n rr d2 A2 S K L))))
    case atStart =>
     refine⟨⟨im,dw,lf,false⟩,A,DA,c,dc,hid ⟨?_,Z1.out,hc,HN.out,Je.out⟩,.inl ⟨rfl,hid ⟨[⟨16,1⟩],N,B2,lc2,rfl,by omega,Lw.out,HV.out.symm,Lu.out,.inl ⟨HI.out.below Je.out,HQ.out.below Je.out⟩⟩⟩⟩;dsimp only;rw[HM.out];exact Z0.out
    obtain⟨d2,A2,K,S,L,Js,⟨rfl,Lg⟩|⟨rfl,Lr⟩⟩:=hrel
    .obtain ⟨V,J,T,O⟩:=d2;obtain⟨E,x,B3,lc3,rfl,Lp,f,Jz,Kz,Km⟩:=Lg.out;have Kp:=hid f;have U:=hid Jz;obtain⟨ab0,X,ac,al,I⟩:=Js.out;have A0:=hid ab0;have A1:=hid X;have Jw:=hid I;have Lx:=(aa _).1 f.size;have Li:=f.err;have Jj:=hid (xJ A2 K B3 V J T O n S J.length L E E.length lc3 wr al rfl ac f.ok rfl f.small.pos f.small.le (f.small.ent f.size) f.w24 f.small.in_ (f.small.eok (by omega)) (Km.rd I.size).1 (Km.rd I.size).2 Kz);unfold mh at Jj;obtain⟨m1,m2,m3⟩:=f.made;have Kr:=hid m1;have Lo:=hid m2;have F:=hid m3;have Jg:=hid (λ(h:x=[])=>(h ▸ f:RnAt n VV ZZ ⟨V,J,T,O⟩ E []).done);have Y:=hid (λE2 outs3 (h:x=E2::outs3)=>(h ▸ f:RnAt n VV ZZ ⟨V,J,T,O⟩ E (E2::outs3)).step);unfold yD at U;obtain⟨d3,Le⟩:∃d3,atM ⟨V,J,T,O⟩ E=d3:=⟨_,rfl⟩;rw[Le] at Jj Kr Lo F Jg Y U;rw[F.out] at Jj;have Ma:=A0.out.lt;have Lc:=A1.out.lt;have Ke:=hid Lp;dsimp only at A0;clear f Jz Kz Km ab0 X ac al I Li m1 m2 m3 Lg Js Le Lp Lx;obtain⟨p,l,z,dn3⟩:=d3;go_wp2_with (first
      | ((with_reducible refine aM 79 (.tmp 1) ?_);refine ldD A0.out ?_))
     refine Jj.out.mono ?_;rintro e w3 ⟨⟨_,rfl,A3,c3,P,dc3,rfl,Kl,Lb,Ky⟩,Ja⟩;have Kf:=hid (ao Lb (show w.heap.size+2<=wr.heap.size by omega));have Ks:=hid (ao Ky (show w.heap.size+2<=wr.heap.size by omega));have Jl:=hid (Jw.out.trans (Ja.mono Jw.out.size));have C0:=hid (A0.out.up Ja Ma);have C1:=hid (A1.out.up Ja Lc);have Mc:=Ja.size;clear Lb Ky Ja Jj;have X8:=hid (Bx.new w3 79 #[.slice none 0 0,.slice none 0 0,.int .i64 0,.bool false]);have Kk:w.heap.size≠w3.heap.size:=by omega
     have Jt:=hid ((kql w3.heap.size w3).alloc (kqd _) (.cells #[.slice none 0 0,.slice none 0 0,.int .i64 0,.bool false] 79));dsimp only;cases dn3 with
     | true =>
      have G:Hid (rr=(⟨p,l,z,true⟩,60)):=hid (by rw[<-U.out,if_pos rfl]);clear U Jg Y Kp Ke;go_wp2_with (first
       | (((with_reducible refine aq 79 (.tmp 8) _ ?_);refine stD X8.out ?_;intro w4 U8 Jm);have b:=hid (Jm.out.below Jt.out (kqd _));have C04:=hid (C0.out.up b.out C0.out.lt);have C14:=hid (C1.out.up b.out C1.out.lt);have Jq:=hid (ai Kf.out b.out (kqd _));have Jv:=hid (ai Ks.out b.out (kqd _));have Jp:=hid (Jl.out.trans (b.out.mono Jl.out.size)))
       | ((with_reducible refine aM 79 (.tmp 8) ?_);refine ldD U8.out ?_)
       | (((with_reducible refine aq 79 (.tmp 1) _ ?_);refine stD C04.out ?_;intro w5 U0 s);obtain⟨s0,s1,s2,s3,sf0,sf1,sf2,sf3,slt⟩:=U0.out.c4)
       | ((with_reducible refine aM 79 (.tmp 1) ?_);refine ldD U0.out ?_)
       | ((with_reducible refine aq 79 (.tmp 2) _ ?_);refine stD (s.out.bx C14.out Jd) ?_;intro w9 y i))
      refine kqr (v:=.tuple #[.agg #[.slice A3 n c3,.slice P l.length dc3,.int .i64 z,.bool true],.int .i64 60]) (a9 results37 _ y.out rfl rfl rfl) rfl ⟨⟨_,by rw[G.out],by
       rw[G.out];unfold mh;dsimp only;rw[show p.length=n from F.out];exact⟨A3,c3,P,dc3,rfl,Kl,ao (ap (ap Jq.out s.out (by omega)) i.out (by omega)) (by omega),ao (ap (ap Jv.out s.out (by omega)) i.out (by omega)) (by omega)⟩⟩,i.out.below (s.out.below Jp.out (kqd _)) (by omega)⟩
     | false =>
      have G:Hid (rr=yD x ⟨p,l,z,false⟩):=hid (by rw[<-U.out,if_neg (by simp)]);have a:=hid (λW (h:RdW W W.heap.size A3 p) (h2:RdQ W W.heap.size P l)=>qa A3 P p l z false n c3 l.length dc3 W F.out rfl (by omega) (by have:=(ox Kr.out).1;dsimp only at this;omega) h h2);unfold DZ at a;rw[jH Kr.out] at a;have Kd:(dvV ⟨p,l,z,false⟩).length=n:=(kg _).trans F.out;dsimp only at a;rw[show p.length=n from F.out] at a;have Eq:=hid (λB2 S W (Kn:n<=S) (h:RdW W W.heap.size B2 (dvV ⟨p,l,z,false⟩))=>yp B2 (dvV ⟨p,l,z,false⟩) S n W Kd hn2 Kn h Lo.out.v);unfold GY at Eq;clear U Kd;go_wp2_with (first
       | (((with_reducible refine aq 79 (.tmp 8) _ ?_);refine stD X8.out ?_;intro w4 U8 Jm);have b:=hid (Jm.out.below Jt.out (kqd _));have C04:=hid (C0.out.up b.out C0.out.lt);have C14:=hid (C1.out.up b.out C1.out.lt);have Jq:=hid (ai Kf.out b.out (kqd _));have Jv:=hid (ai Ks.out b.out (kqd _));have Jp:=hid (Jl.out.trans (b.out.mono Jl.out.size)))
       | ((with_reducible refine aM 79 (.tmp 8) ?_);refine ldD U8.out ?_)
       | (((with_reducible refine aq 79 (.tmp 1) _ ?_);refine stD C04.out ?_;intro w5 U0 s);obtain⟨s0,s1,s2,s3,sf0,sf1,sf2,sf3,slt⟩:=U0.out.c4)
       | ((with_reducible refine aM 79 (.tmp 1) ?_);refine ldD U0.out ?_))
      have Ko:=hid (ap Jq.out s.out (show w.heap.size<w.heap.size+2 by omega));have Ku:=hid (ap Jv.out s.out (show w.heap.size<w.heap.size+2 by omega));have C15:=hid (s.out.bx C14.out Jd);have Kt:=hid (s.out.below Jp.out (kqd _));have Ld:=U0.out.lt;have Kc:=C15.out.lt;clear s0 s1 s2 s3 sf0 sf1 sf2 sf3 slt U8 Jm b s Jq Jv C14 C04 Jp Kf Ks C0 C1 Jl Kk Mc;refine (a.out w5 (Rd.of_own Ko.out) (Rd.of_own Ku.out)).mono ?_;rintro e w6 ⟨⟨Ls,-⟩,R⟩;obtain⟨gv6,cv6,rfl,M⟩:=Ls (by trivial);have Kb:=aZ M;have Kw:=hid (show RdW w6 w6.heap.size _ _ from Rd.of_own M);have Lh:=hid (ai Ko.out R (kqd _));have Ll:=hid (ai Ku.out R (kqd _));have D06:=hid (U0.out.up R Ld);have D16:=hid (C15.out.up R Kc);have Ju:=hid (Kt.out.trans (R.mono Kt.out.size));have Ln:=D06.out.lt;have Ka:=D16.out.lt;clear Ls M R a Ko Ku U0 C15 Kt Ld Kc;have Jf:=Ke.out;cases x with
      | nil =>
       have Q:=Jg.out (by trivial) (by trivial);rw[Q] at Eq;clear Q Jg Y Kp;go_wp2_with fail;refine (Eq.out _ _ w6 Kb Kw.out).mono ?_;rintro e w7 ⟨⟨A7,c7,rfl,-⟩,g⟩;have Kg:=hid (ai Lh.out g (kqd _));have Kh:=hid (ai Ll.out g (kqd _));have D07:=hid (D06.out.up g Ln);have D17:=hid (D16.out.up g Ka);have Ki:=hid (Ju.out.trans (g.mono Ju.out.size));clear g;go_wp2;go_roundg 1
       case rel=>exact⟨⟨p,l,z,false⟩,A3,P,c3,dc3,hid ⟨D07.out,D17.out,Kl,F.out,Ki.out⟩,.inr ⟨rfl,hid ⟨G.out.symm,Kg.out,Kh.out⟩⟩⟩
       case measure=>simp only[kxk] at Jf;omega
      | cons E2 outs3 =>
       have Q:=Y.out E2 outs3 (by trivial) (by trivial);rw[Q.1] at Eq;have Lk:=hid Q.2;clear Q Jg Y Kp;go_wp2_with fail;refine (Eq.out _ _ w6 Kb Kw.out).mono ?_;rintro e w7 ⟨⟨A7,c7,rfl,Ji⟩,g⟩;have Md:=hid (show RdE w7 w7.heap.size A7 E2 from Rd.of_own Ji);have Kg:=hid (ai Lh.out g (kqd _));have Kh:=hid (ai Ll.out g (kqd _));have D07:=hid (D06.out.up g Ln);have D17:=hid (D16.out.up g Ka);have Ki:=hid (Ju.out.trans (g.mono Ju.out.size));clear g Ji;go_wp2;go_roundg (outs3.length+2)
       case rel=>exact⟨⟨p,l,z,false⟩,A3,P,c3,dc3,hid ⟨D07.out,D17.out,Kl,F.out,Ki.out⟩,.inl ⟨rfl,hid ⟨E2,outs3,A7,c7,rfl,by omega,Lk.out,G.out.symm,Md.out,.inr ⟨Kg.out,Kh.out⟩⟩⟩⟩
       case measure=>simp only[kq2] at Jf;omega
    obtain⟨V,J,T,O⟩:=d2;obtain⟨ab0,X,ac,al,I⟩:=Js.out;obtain⟨Jc,ho,hq⟩:=Lr.out;have A0:=hid ab0;have A1:=hid X;have Jw:=hid I;have HO:=hid ho;have Lv:=hid hq;have G:=hid Jc;dsimp only at A0;have Jt:=hid al;clear ab0 X al I Jc ho hq Js Lr;go_wp2_with (first
     | ((with_reducible refine aM 79 (.tmp 1) ?_);refine ldD A0.out ?_)
     | ((with_reducible refine aq 79 (.tmp 2) _ ?_);refine stD A1.out ?_;intro w9 y i))
    refine kqr (v:=.tuple #[.agg #[.slice A2 n S,.slice K J.length L,.int .i64 T,.bool O],.int .i64 0]) (a9 results37 _ y.out rfl rfl rfl) rfl ⟨⟨_,by rw[<-G.out],by
     rw[<-G.out];unfold mh;dsimp only;rw[show V.length=n from Jt.out];exact⟨A2,S,K,L,rfl,ac,ao (ap HO.out i.out (by omega)) (by omega),ao (ap Lv.out i.out (by omega)) (by omega)⟩⟩,i.out.below Jw.out (by omega)⟩
   have Mb:=hid o;rw[if_neg o] at D;have HV:Hid (coR ⟨im,dw,lf,false⟩=(dvZ,cc (dvV ⟨im,dw,lf,false⟩))):=hid (by unfold coR;rw[if_pos Jo.out,if_neg (by simp),if_neg o]);obtain⟨r,Lt⟩:∃r,cc (dvV ⟨im,dw,lf,false⟩)=r:=⟨_,rfl⟩;rw[Lt] at D HV o;rw[HV.out];have e1:(r != 0)=true:=by rw[kqv];exact o
   clear Lt o Mb;go_enter func37,ntmps37;go_wp2_with (first
    | ((with_reducible refine aM 79 (.tmp 1) ?_);refine ldD X0.out ?_))
   clear Jr;refine (a.out W0 (HI.out.up j.out k) (HQ.out.up j.out k)).mono ?_;rintro e w1 ⟨⟨t,-⟩,d⟩;obtain⟨gv,cv,rfl,q⟩:=t (by trivial);have Y0:=hid (X0.out.up d Kv);have Y1:=hid (X1.out.up d Jy);have C:=hid (j.out.trans (d.mono k));have Kj:=aZ q;have Kq:=hid (show RdW w1 w1.heap.size _ _ from Rd.of_own q);obtain⟨-,-,-,q3,-,-,-,-,hg⟩:=Y0.out.c4;have Jk:=Y1.out.lt;clear t d a q;go_wp2_with fail;refine (D.out _ _ w1 Kj Kq.out).mono ?_;rintro e w2 ⟨⟨B2,lc2,rfl,-⟩,H⟩;have Z1:=hid (Y1.out.up H Jk);have Je:=hid (C.out.trans (H.mono C.out.size));clear H q3 D;go_wp2_with (first
    | ((with_reducible refine aq 79 (.tmp 2) _ ?_);refine stD Z1.out ?_;intro w9 y i))
   refine kqr (v:=.tuple #[.agg #[.slice none 0 0,.slice none 0 0,.int .i64 0,.bool false],.int .i64 r]) (a9 results37 _ y.out rfl rfl rfl) rfl ⟨⟨_,rfl,yP _ _⟩,i.out.below Je.out (by omega)⟩
 have Jo:=hid (yd h0);have HV:Hid (coR ⟨im,dw,lf,dn⟩=(dvZ,8)):=hid (by unfold coR;rw[if_neg h0]);rw[Jo.out] at a;rw[HV.out];clear h0;go_enter func37,ntmps37;go_wp2_with (first
  | ((with_reducible refine aM 79 (.tmp 1) ?_);refine ldD X0.out ?_))
 clear Jr;refine (a.out W0 (HI.out.up j.out k) (HQ.out.up j.out k)).mono ?_;rintro e w1 ⟨⟨-,t⟩,d⟩;obtain rfl:=t (by decide);have Y1:=hid (X1.out.up d Jy);have C:=hid (j.out.trans (d.mono k));clear d a;go_wp2_with (first
  | ((with_reducible refine aq 79 (.tmp 2) _ ?_);refine stD Y1.out ?_;intro w9 y i))
 refine kqr (v:=.tuple #[.agg #[.slice none 0 0,.slice none 0 0,.int .i64 0,.bool false],.int .i64 8]) (a9 results37 _ y.out rfl rfl rfl) rfl ⟨⟨_,rfl,yP _ _⟩,i.out.below C.out (by omega)⟩
end Go.Proofs.YtpcajamacpbjcaaGreat
