/- Regions that draw their order, where one operation comes up last: behind it the condition need not hold. -/
import Derived.RowKit
import Derived.OrdersHeld
import Derived.Deep.RegionHeld
import Derived.Test.YtpcajamacpbjcaaGreatZGMb
import Derived.Maps.AppendAt
import Derived.Maps.Range
set_option maxHeartbeats 16000000
set_option maxRecDepth 100000
set_option linter.all false
namespace Go.Proofs.YtpcajamacpbjcaaGreat
open Go.RowKit
variable {o:List Nat}{L:List Ty}{xs:List Value}{B F H NB f i k n:Nat}{v:Value}{a w w':World}
open Go.Proofs.Tryz
section
variable {P:Program} {ops:Array Oper} {Q:Exit->Act->World->Prop} {md:Region.Mode} {S:World->Prop} {L:Nat}
def wpL (P:Program) (md:Region.Mode) (ops:Array Oper) (Q:Exit->Act->World->Prop) (S:World->Prop) (L:Nat):Nat->Array Bool->Act->World->Prop
 | 0,ls,a,w=>Region.ready md ops ls=[]/\Q .normal a w
 | f+1,ls,a,w=>(Region.ready md ops ls=[]->Q .normal a w)/\∀i∈Region.ready md ops ls,wpOp P ops Q i (λa' w'=>(i≠L->S w')/\wpL P md ops Q S L f (ls.setIfInBounds i true) a' w') a w
theorem Fm:∀(f:Nat) (b:Array Bool) (a:Act) (w:World),wpL P md ops Q S L f b a w->wpAny P md ops Q f b a w:=by
 intro f
 induction f with
 | zero=>exact λ_ _ _ h=>h
 | succ f ih=>exact λb a w h=>⟨h.1,λi d=>wpOp_mono (λe w' c=>ih _ e w' c.2) (h.2 i d)⟩
def Bc (md:Region.Mode) (ops:Array Oper) (L i:Nat):Bool:=match ops[L]? with
 | none=>true
 | some o=>o.after.any λe=>Region.binds md e&&e.on==i
theorem uN{ls:Array Bool}(h:ls.getD i true=false):ls.getD i false=false:=by
 rcases kq9 i ls.size with a|a
 .simp[a] at h |-;exact h
 simp[Array.getElem?_eq_none a] at h
theorem Em{ls:Array Bool}(h:Bc md ops L i=true)(hr:i∈Region.ready md ops ls):L ∉ Region.ready md ops ls:=λd=>by obtain⟨-,o,f,a⟩:=mem_ready.1 d;unfold Bc at h;rw[f] at h;obtain⟨e,g,b⟩:=Array.any_eq_true'.1 h;simp only[kqz,kqx] at b;have c:=a e g b.1;rw[b.2,uN (mem_ready.1 hr).1] at c;cases c
theorem ag{oi:Oper}(hi:ops[i]? = some oi)(hs:Region.noSelect ops=true)(hw:Bc md ops L i=true)(hQ:∀c a w,Q (.panic c) (a.put oi.dst v) w->Q (.panic c) a w):
 ∀ {f:Nat} {m:Array Bool} {a:Act} {w:World},Region.free md ops m i=true->(Region.ready md ops m).contains i=true->YieldsIf P ops S oi v a->S w->wpL P md ops Q S L f (m.setIfInBounds i true) (a.put oi.dst v) w->wpL P md ops Q S L (f+1) m a w:=by
 intro f
 induction f with
 | zero =>
  intro m a w _ o A p H;have o:i∈Region.ready md ops m:=by simpa using o
  refine⟨λh=>(by rw[h] at o;cases o),λj z=>?_⟩;by_cases d:j=i
  .subst d;exact A.wpOp hi p ⟨λ_=>p,H⟩
  have t:=ready_mono z d;rw[H.1] at t;cases t
 | succ f ih =>
  intro m a w q o A p H;have l:i∈Region.ready md ops m:=by simpa using o
  refine⟨λh=>(by rw[h] at l;cases l),λj z=>?_⟩;by_cases d:j=i
  .subst d;exact A.wpOp hi p ⟨λ_=>p,H⟩
  have B:j≠L:=λe=>Em hw l (e ▸ z);obtain⟨r,D,n,s⟩:=mem_ready.1 z;have x:∀e∈D.after,Region.binds md e=true->e.on≠i:=λe I G C=>by
   have t:=s e I G;rw[C,uN (mem_ready.1 l).1] at t;cases t
  have y:=Region.noSelect_spec hs;have F:=wpOp_putIf n (Region.free_spec hi q j D n d r x) (λcs b=>y i oi cs b hi) (λcs b=>y j D cs b n) hQ A (H.2 j (ready_mono z d));have E:Region.free md ops (m.setIfInBounds j true) i=true:=by
   unfold Region.free at q |-;rw[hi] at q |-;rw[kzq] at q |-;intro k J;have g:=q k J;simp only[kx7] at g |-;rcases g with (g|g) | g
   .exact .inl (.inl g)
   .refine .inl (.inr ?_);by_cases u:j=k
    .subst u;rw[r] at g;cases g
    rw[getD_set_ne true u];exact g
   exact .inr g
  refine wpOp_mono (λa' w' g=>⟨g.2.1,ih E (by simpa using ready_mono l (Ne.symm d)) g.1 (g.2.1 B) ?_⟩) F;rw[Array.setIfInBounds_comm _ _ d];exact g.2.2
theorem cM{o:Oper}{ls:Array Bool}{a:Act}(hr:Region.ready md ops ls=[i])(ho:ops[i]? = some o)(hw:Region.wanted o (yielded ops a.tmps)=true)(h:∀K:Act->World->Prop,(∀b w',(i≠L->S w')->wpL P md ops Q S L f (ls.setIfInBounds i true) b w'->K b w')->o.wp P a w K Q):wpL P md ops Q S L (f+1) ls a w:=by refine⟨λd=>(by rw[hr] at d;cases d),λj c=>?_⟩;rw[hr,kq1] at c;subst c;unfold wpOp;simp only[ho,hw,if_true];exact .inl (h _ λb w' e g=>⟨e,g⟩)
theorem fZ{ls:Array Bool}{a:Act}(hr:Region.ready md ops ls=[])(h:Q .normal a w):∀f,wpL P md ops Q S L f ls a w
 | 0=>⟨hr,h⟩
 | _+1=>⟨λ_=>h,λi b=>(by rw[hr] at b;cases b)⟩
theorem dB{id:Nat}{a:Act}(L:Nat)(S:World->Prop)(hm:P.follows .mixedOrders=true)(hS:S w.drew)(h:S w.drew->wpL P .any ops Q S L ops.size (Array.replicate ops.size false) a w.drew):(Code.region id ops true).wp P Q a w:=
 wp_region_any hm (Fm _ _ _ _ (h hS))
end
open Lib (hid)
def kr (L:List Oj):Prop:=L.Pairwise λx y=>∀b,(Value.slice x.A x.l.length x.c).ownBlock=some b->(Value.slice y.A y.l.length y.c).ownBlock≠some b
def lR (m:Md) (H:Nat) (e:Ending) (w':World):Prop:=∃(TB:Option Addr) (td:Nat) (L:List Ty) (OB:Option Addr) (od:Nat) (O:List Oj) (SB:Option Addr) (sd:Nat),
 e=.returned (.agg #[.slice TB L.length td,.slice OB O.length od,.slice SB m.slots.length sd])/\km w' H (.slice TB L.length td) L/\vF w' H (.slice OB O.length od) O/\kr O/\w'.ownsRow H 52 3 (.slice SB m.slots.length sd) m.slots.length (m.slots.flatMap Sl.cells)/\L.map Ty.l=m.types/\O.map Oj.ob=m.objs
theorem C7:(prog.info? 113).map (λi=>(i.zero,i.size,i.bytes))=some (some (.slice none 0 0),1,24):=by kernel_rfl
theorem km.below(h:km w H v L)(hb:Below B w w')(hB:w.heap.size<=B):km w' H v L:=⟨aj h.1 hb hB,λx a=>aj (h.2 x a) hb hB⟩
theorem km.grown{row:Option Nat}(h:km w H v L)(hg:w.grownBy w' row)(hr:∀r,row=some r->r<H):km w' H v L:=by
 have a:∀ {e:TypeId} {sz n:Nat} {u:Value} {xs:List Value},w.ownsRow H e sz u n xs->w'.ownsRow H e sz u n xs:=λ{e sz n u xs} c=>aU c hg (by
  cases d:u.ownBlock with
  | none=>exact .inl rfl
  | some b =>
   right;intro f;have:=(c.lt b d).1;have:=hr b f.symm;omega)
 exact⟨a h.1,λx g=>a (h.2 x g)⟩
theorem DD(v:Value)(m:Md)(w:World)(h:qh w v m)(hok:MdOk m):
 Calls prog 72 #[v] w λe w'=>lR m w.heap.size e w'/\Below w.heap.size w w':=by
 obtain⟨TA,tc,L,OA,oc,O,SA,sc,rfl,a1,a2,a3,a4,a5⟩:=h;have lT:L.length<=8:=by have:=congrArg List.length a4;rw[kqs] at this;have:=hok.t8;omega
 have lO:O.length<=960:=by have:=congrArg List.length a5;rw[kqs] at this;have:=hok.o9;omega
 have Kl:=hok.s16;have Ks:Hid (∀k (hk:k<L.length),L[k].l.length<=8):=hid λk hk=>by
  have:=hok.tk _ (by rw[<-a4];exact kz9 (kqm hk));unfold b8 at this;split at this
  .cases this
  omega
 have Ld:Hid (∀k (hk:k<O.length),O[k].l.length<=8):=hid λk hk=>by
  obtain⟨T,F,-,-,h3⟩:=hok.ob _ (by rw[<-a5];exact kz9 (kqm hk));exact h3.2.1
 have Ka:=hid (λW (h:RdS W W.heap.size SA m.slots)=>EJ SA m.slots sc m.slots.length W rfl (by omega) h);have X1:=hid ((Bx.new w 72 #[.slice TA L.length tc,.slice OA O.length oc,.slice SA m.slots.length sc]).alloc (.cells #[.slice none 0 0,.slice none 0 0,.slice none 0 0] 72));have x2:=Bx.new (w.alloc (.cells #[.slice TA L.length tc,.slice OA O.length oc,.slice SA m.slots.length sc] 72)) 72 #[.slice none 0 0,.slice none 0 0,.slice none 0 0];rw[kqn] at x2;have X2:=hid x2;have Ja:=hid (((kql w.heap.size w).alloc (kqg _) (.cells #[.slice TA L.length tc,.slice OA O.length oc,.slice SA m.slots.length sc] 72)).alloc (by simp) (.cells #[.slice none 0 0,.slice none 0 0,.slice none 0 0] 72));have HT:=hid a1;have HO:=hid a2;have HS:=hid a3;have Kf:=hid a4;have Lh:=hid a5;obtain⟨n,hn⟩:=xq O.length;obtain⟨nt,Jg⟩:=xq L.length;obtain⟨ns,Jf⟩:=xq m.slots.length;have HN:=hid hn;have Jq:=hid Jg;have Kc:=hid Jf;rw[hn,Jg,Jf] at X1 X2 Ja;rw[Jf] at Ka;rw[hn] at lO;rw[Jg] at lT;rw[hn,Jg,Jf];obtain⟨-,-,p2,-,-,-,-⟩:=X1.out.c3;obtain⟨i0,hi,Jc,Ji,Je⟩:=kzt C7;have HI:=hid hi;have Le:=hid Jc;have Lb:=hid Ji;have Kv:=hid Je;clear hi Jc Ji Je;obtain⟨i2,hi,Jc,Ji,Je⟩:=kzt AZ;have HJ:=hid hi
 have Lj:=hid Jc;have Lc:=hid Ji;have Lf:=hid Je;clear hi Jc Ji Je;clear a1 a2 a3 a4 a5 hok Kl hn Jg Jf x2;go_enter func72,ntmps72;go_wp2_with fail;refine (Ka.out _ (show RdS _ _ SA m.slots from Rd.up HS.out Ja.out Ja.out.size)).mono ?_;rintro e d ⟨⟨SB,sd,rfl,a⟩,Jk⟩;have Y:=hid (Ja.out.trans (Jk.mono Ja.out.size));have Y1:=hid (X1.out.up Jk X1.out.lt);have Y2:=hid (X2.out.up Jk X2.out.lt);have S1:=hid (aB (H:=w.heap.size+2) a (by simp only[kqn];omega));have T1:=hid (HT.out.up Y.out Y.out.size);have O1:=hid (HO.out.up Y.out Y.out.size);have Ky:=Y2.out.lt;have G1:=hid (Bx.new d 72 #[.slice none 0 0,.slice none 0 0,.slice SB ns sd]);have B1:=hid ((kql d.heap.size d).alloc (kqg _) (.cells #[.slice none 0 0,.slice none 0 0,.slice SB ns sd] 72));obtain⟨q0,q1,q2,-,-,-,-⟩:=(Y1.out.alloc (.cells #[.slice none 0 0,.slice none 0 0,.slice SB ns sd] 72)).c3;clear p2 a Jk X1 X2 Ja;go_wp2_with fail;clear q0 q1 q2;go_loopw [15] (λvi wr=>∃(k:Nat) (TB:Option Addr) (td:Nat) (L':List Ty),k<=nt/\vi=.int .i64 k/\L'.length=k/\Hid (L'.map Ty.l=(L.map Ty.l).take k)/\Hid (Bx wr d.heap.size 72 #[.slice TB k td,.slice none 0 0,.slice SB ns sd])/\Hid (km wr (d.heap.size+1) (.slice TB k td) L')/\Hid (Below d.heap.size d wr)) (λi _=>nt-(intOf i).toNat)
 case atStart=>exact⟨0,none,0,[],kqy _,rfl,rfl,hid rfl,G1,hid ⟨kq3 _ _ _ _,λx j=>absurd j (by simp)⟩,B1⟩
 obtain⟨k,TB,td,L',hk,rfl,R,HE,G,OT,B⟩:=hrel;have hz:=B.out.size;have Km:=G.out.lt;by_cases U:k<nt
 .have N:k<L.length:=by rw[Jq.out];exact U
  obtain⟨g1,o1,rfl,g,r0⟩:=fE (T1.out.1.below B.out) N;have Jj:=(T1.out.2 _ (kqm N)).below B.out;have S:=Ks.out k N;have M:(L.map Ty.l).take (k+1)=(L.map Ty.l).take k++[L[k].l]:=by rw[kqp (by rw[kqs];exact N),kj9]
  obtain⟨y,hy⟩:=xq (L[k]);rw[hy] at r0 Jj S M;obtain⟨yA,yc,F⟩:=y;dsimp only at r0 Jj S M;have Jp:=hid M;have Jt:=hid (λW (h:RdY W W.heap.size yA F)=>Dg yA F yc F.length W rfl (by omega) h);obtain⟨q,Z⟩:=xq F.length;have Eq:=hid Z;rw[Z] at r0 Jt S;have Lg:(0:Int)<=(k:Int):=by omega
  have Kx:(k:Int)<(nt:Int):=by omega
  obtain⟨g0,-,-,gf0,-,-,-⟩:=G.out.c3;have P:=hid B.out.drew;have GD:=hid (show Bx wr.drew d.heap.size 72 #[.slice TB k td,.slice none 0 0,.slice SB ns sd] from G.out);have OD:=hid (show km wr.drew (d.heap.size+1) (.slice TB k td) L' from OT.out);have Jv:=hid (show RdY wr.drew wr.drew.heap.size yA F from Rd.more Jj hz);have J:=hid R;clear hy Jj M Z R OT;go_wp2_with fail;obtain⟨WD,Jb⟩:=xq wr.drew;have hzd:wr.heap.size=WD.heap.size:=by rw[<-Jb];rfl
  refine dB 7 (λX:World=>X.cell? ⟨d.heap.size,0,none⟩=some (.slice TB k td)) (by kernel_rfl) g0 (λu=>?_);rw[Jb] at P GD OD Jv u |-;clear Jb g0 gf0 r0;show wpL _ _ _ _ _ _ 8 #[false,false,false,false,false,false,false,false] _ _;refine ag (i:=0) (v:=.pointer (some ⟨d.heap.size,0,none⟩)) rfl (by kernel_rfl) (by kernel_rfl) (λ_ _ _ h=>h) (by kernel_rfl) (by kernel_rfl) (Or.inl ⟨by kernel_rfl,?_⟩) (by assumption) ?_
  .intro X s;(try dsimp only at s);go_simp
  simp only[Act.put,kqe,kqc,kqb,kqa,kqf,kqd];refine ag (i:=1) (v:=.slice TB k td) rfl (by kernel_rfl) (by kernel_rfl) (λ_ _ _ h=>h) (by kernel_rfl) (by kernel_rfl) (Or.inl ⟨by kernel_rfl,?_⟩) (by assumption) ?_
  .intro X s;(try dsimp only at s);go_simp
  simp only[Act.put,kqe,kqc,kqb,kqa,kqf,kqd];refine ag (i:=2) (v:=.slice yA q yc) rfl (by kernel_rfl) (by kernel_rfl) (λ_ _ _ h=>h) (by kernel_rfl) (by kernel_rfl) (Or.inl ⟨by kernel_rfl,?_⟩) (by assumption) ?_
  .intro X s;(try dsimp only at s);go_simp
  simp only[Act.put,kqe,kqc,kqb,kqa,kqf,kqd];refine cM (i:=3) (by kernel_rfl) rfl (by kernel_rfl) (λK C=>?_);go_simp;refine (Jt.out WD Jv.out).mono ?_;rintro e8 w8 ⟨⟨I,E,rfl,D⟩,o⟩;go_simp;have G8:=hid (GD.out.up o GD.out.lt);have O8:=hid (OD.out.below o (kqg _));have B8:=hid (P.out.trans (o.mono P.out.size));have N8:=hid (aB D (show d.heap.size+1<=WD.heap.size by omega));have Li:=o.size;refine C _ _ (λ_=>G8.out.c3.1) ?_;clear C K D o GD OD Jv Jt P u;(try dsimp only[Act.put,kqe,kqc,kqb,kqa,kqf,kqd]);refine cM (i:=4) (by kernel_rfl) rfl (by kernel_rfl) (λK C=>?_);go_simp;refine C _ _ (λ_=>(G8.out.alloc _).c3.1) ?_;clear C K;(try dsimp only[Act.put,kqe,kqc,kqb,kqa,kqf,kqd]);refine cM (i:=5) (by kernel_rfl) rfl (by kernel_rfl) (λK C=>?_)
  refine fh _ _ _ 69 (by rfl) (d.heap.size+1) 113 i0 _ 1 24 underlying69 HI.out Le.out Lb.out Kv.out rfl (by decide) (.slice TB k td) k (L'.flatMap Ty.cells) (by rfl) (by rw[<-J.out];rw[J.out];have:=O8.out.1;rw[J.out] at this;exact this.alloc _) (w8.alloc (.cells #[.slice I q E] 113)).heap.size (some ⟨w8.heap.size,0,none⟩) 1 1 [.slice I q E] (by rfl) (by rfl) (Rd.of_own (cB (n:=1) (sz:=1) w8 113 #[.slice I q E] (kqg _) (by rfl) (by unfold maxLen;omega))) (by simp[Value.oneCell']) (by unfold maxLen;omega) (by omega) (by rw[kqn];omega) ?_;intro v1 w9 a g;obtain⟨TV,tv,rfl⟩:=aE a;have Jd:=(show w8.ownsRow (d.heap.size+1) 113 1 (.slice TB k td) k (L'.flatMap Ty.cells) by have:=O8.out.1;rw[J.out] at this;exact this);have Jh:=aY Jd (kxs d.heap.size);have g9:=(G8.out.alloc (.cells #[.slice I q E] 113)).grown g Jh;refine C _ _ (λ_=>g9.c3.1) ?_;have G9:=hid g9;have B9:=hid (aw B8.out B8.out.size (aB Jd (kxe _)) g);have O9:=hid (λx j=>aU ((O8.out.2 x j).alloc (.cells #[.slice I q E] 113)) g (eQ (O8.out.2 x j) Jd (by decide)));have N9:=hid (aU (N8.out.alloc (.cells #[.slice I q E] 113)) g (eQ N8.out Jd (by decide)));have R9:=hid a;obtain⟨gc9,-,-,gf9,-,-,gl9⟩:=g9.c3;clear C K a g Jd Jh g9 G8 O8 N8
  (try dsimp only[Act.put,kqe,kqc,kqb,kqa,kqf,kqd]);refine ag (i:=6) (v:=.pointer (some ⟨d.heap.size,0,none⟩)) rfl (by kernel_rfl) (by kernel_rfl) (λ_ _ _ h=>h) (by kernel_rfl) (by kernel_rfl) (Or.inl ⟨by kernel_rfl,?_⟩) (by assumption) ?_
  .intro X s;(try dsimp only at s);go_simp
  simp only[Act.put,kqe,kqc,kqb,kqa,kqf,kqd];refine cM (i:=7) (by kernel_rfl) rfl (by kernel_rfl) (λK C=>?_);go_simp;refine C _ _ (λh=>absurd rfl h) ?_;clear C K;(try dsimp only[Act.put,kqe,kqc,kqb,kqa,kqf,kqd]);refine fZ (by kernel_rfl) ?_ _;have G10:=hid (G9.out.set_ 0 (.slice TV (k+1) tv));have B10:=hid (B9.out.setCell (p:=⟨d.heap.size,0,none⟩) (kqg _) (.slice TV (k+1) tv));have R10:=hid (ar (p:=⟨d.heap.size,0,none⟩) R9.out (aY R9.out (kxs d.heap.size)).symm (.slice TV (k+1) tv));have O10:=hid (λx j=>ar (p:=⟨d.heap.size,0,none⟩) (O9.out x j) (aY (O9.out x j) (kxs d.heap.size)).symm (.slice TV (k+1) tv));have N10:=hid (ar (p:=⟨d.heap.size,0,none⟩) N9.out (aY N9.out (kxs d.heap.size)).symm (.slice TV (k+1) tv));clear gc9 gf9 G9 B9 R9 O9 N9;go_wp2;go_roundw
  case rel =>
   refine⟨k+1,TV,tv,L'++[⟨I,E,F⟩],by omega,by go_num,by rw[kqw,J.out];rfl,hid (by rw[kxa,HE.out,Jp.out];rfl),G10,hid ⟨?_,λx j=>?_⟩,B10⟩
   .rw[kqw,J.out,kxl];show World.ownsRow _ _ _ _ _ _ (_++[.slice I F.length E]);rw[Eq.out];exact R10.out
   rcases kzo.1 j with j|j
   .exact O10.out x j
   rw[kq1] at j;subst j;dsimp only;rw[Eq.out];exact N10.out
  case measure=>simp[intOf];omega
 obtain rfl:nt=k:=by omega
 have hE:L'.map Ty.l=m.types:=by rw[HE.out,<-Jq.out,<-kqs (f:=Ty.l),kz2];exact Kf.out
 have Kn:=hid hE;have Ku:decide ((nt:Int)<(nt:Int))=false:=by rw[kqh];omega
 have Kz:decide (nt<nt)=false:=by rw[kqh];exact U
 obtain⟨w5,Ko⟩:=xq wr;rw[Ko] at G OT B hz Km |-;clear Ko hE U hk HE R;obtain⟨-,q1,-,-,-,-,-⟩:=(Y1.out.up B.out Y1.out.lt).c3;go_wp2_with fail;clear q1;go_loopw [30] (λvi wr=>∃(k:Nat) (OB:Option Addr) (od:Nat) (O':List Oj),k<=n/\vi=.int .i64 k/\O'.length=k/\Hid (O'.map Oj.ob=(O.map Oj.ob).take k)/\Hid (Bx wr d.heap.size 72 #[.slice TB nt td,.slice OB k od,.slice SB ns sd])/\Hid (vF wr w5.heap.size (.slice OB k od) O')/\Hid (kr O')/\Hid (w5.grownBy wr (some d.heap.size))/\Hid (Below d.heap.size d wr)) (λi _=>n-(intOf i).toNat)
 case atStart=>exact⟨0,none,0,[],kqy _,rfl,rfl,hid rfl,G,hid ⟨kq3 _ _ _ _,λx j=>absurd j (by simp)⟩,hid List.Pairwise.nil,hid (World.grownBy.refl _ _),B⟩
 obtain⟨k,OB,od,O',hk,rfl,R,HE,G',OO,Kp,HG,B'⟩:=hrel;have Jz:=B'.out.size;have hz5:=HG.out.size;by_cases U:k<n
 .have N:k<O.length:=by rw[HN.out];exact U
  obtain⟨g1,o1,rfl,g,r0,r1⟩:=(show RdO wr d.heap.size OA O from ⟨Rd.below O1.out.1 B'.out,λx j=>Rd.below (O1.out.2 x j) B'.out⟩).at_ N;have Jl:=Rd.below (O1.out.2 _ (kqm N)) B'.out;have S:=Ld.out k N;have M:(O.map Oj.ob).take (k+1)=(O.map Oj.ob).take k++[O[k].ob]:=by rw[kqp (by rw[kqs];exact N),kj9]
  obtain⟨x,j⟩:=xq (O[k]);rw[j] at r0 r1 Jl S M;obtain⟨t,V,xc,xl⟩:=x;dsimp only at r0 r1 Jl S M;have Jp:=hid M;have Jw:=hid (λW (h:RdW W W.heap.size V xl)=>ug V xl xc xl.length W rfl (by omega) h);obtain⟨q,Z⟩:=xq xl.length;have Eq:=hid Z;rw[Z] at r1 Jw S;have Lg:(0:Int)<=(k:Int):=by omega
  have Kx:(k:Int)<(n:Int):=by omega
  have J:=hid R;have ob5:d.heap.size<w5.heap.size:=Km;have Kd:=B'.out.alloc Jz (.cells #[.int .i64 t,.slice V q xc] 135);have P:=hid Kd.drew;have GD:=hid (show Bx (wr.alloc (.cells #[.int .i64 t,.slice V q xc] 135)).drew d.heap.size 72 #[.slice TB nt td,.slice OB k od,.slice SB ns sd] from G'.out.alloc _);have XD:=hid (show Bx (wr.alloc (.cells #[.int .i64 t,.slice V q xc] 135)).drew wr.heap.size 135 #[.int .i64 t,.slice V q xc] from Bx.new wr _ _);have OD:=hid (show vF (wr.alloc (.cells #[.int .i64 t,.slice V q xc] 135)).drew w5.heap.size (.slice OB k od) O' from ⟨OO.out.1.alloc _,λx j=>(OO.out.2 x j).alloc _⟩);have GRD:=hid (show w5.grownBy (wr.alloc (.cells #[.int .i64 t,.slice V q xc] 135)).drew (some d.heap.size) from ((HG.out.trans (kxf wr _ _)).trans ⟨rfl,rfl,rfl,kqg _,λ_ _ _=>rfl⟩));have Kk:=hid (show some wr.heap.size≠(Value.slice OB k od).ownBlock from λh=>by have:=(OO.out.1.lt _ h.symm).2;omega);have Jr:=hid (show RdW (wr.alloc (.cells #[.int .i64 t,.slice V q xc] 135)).drew (wr.alloc (.cells #[.int .i64 t,.slice V q xc] 135)).drew.heap.size V xl from (Rd.alloc Jl Jz _).more (kza Jz (by simp[World.drew])));have La:wr.heap.size<(wr.alloc (.cells #[.int .i64 t,.slice V q xc] 135)).drew.heap.size:=by simp[World.drew]
  have Ki:=And.intro GD.out.c3.2.1 (And.intro XD.out.c2.1 XD.out.c2.2.1);have Kg:=hid Ki;clear j Jl M Z R OO G' HG B' Kd Ki;go_wp2_with fail;obtain⟨WD,Jb⟩:=xq ((wr.alloc (.cells #[.int .i64 t,.slice V q xc] 135)).drew);refine dB 11 (λX:World=>X.cell? ⟨d.heap.size,1,none⟩=some (.slice OB k od)/\X.cell? ⟨wr.heap.size,0,none⟩=some (.int .i64 t)/\X.cell? ⟨wr.heap.size,1,none⟩=some (.slice V q xc)) (by kernel_rfl) Kg.out (λu=>?_);rw[Jb] at P GD XD OD GRD Jr La u |-;clear Jb r0 r1 Kg;show wpL _ _ _ _ _ _ 12 #[false,false,false,false,false,false,false,false,false,false,false,false] _ _;refine ag (i:=0) (v:=.pointer (some ⟨d.heap.size,1,none⟩)) rfl (by kernel_rfl) (by kernel_rfl) (λ_ _ _ h=>h) (by kernel_rfl) (by kernel_rfl) (Or.inl ⟨by kernel_rfl,?_⟩) (by assumption) ?_
  .intro X s;(try dsimp only at s);go_simp
  simp only[Act.put,kqe,kqc,kqb,kqa,kqf,kqd];refine ag (i:=1) (v:=.slice OB k od) rfl (by kernel_rfl) (by kernel_rfl) (λ_ _ _ h=>h) (by kernel_rfl) (by kernel_rfl) (Or.inl ⟨by kernel_rfl,?_⟩) (by assumption) ?_
  .intro X s;(try dsimp only at s);go_simp
  simp only[Act.put,kqe,kqc,kqb,kqa,kqf,kqd];refine ag (i:=2) (v:=.pointer (some ⟨wr.heap.size,0,none⟩)) rfl (by kernel_rfl) (by kernel_rfl) (λ_ _ _ h=>h) (by kernel_rfl) (by kernel_rfl) (Or.inl ⟨by kernel_rfl,?_⟩) (by assumption) ?_
  .intro X s;(try dsimp only at s);go_simp
  simp only[Act.put,kqe,kqc,kqb,kqa,kqf,kqd];refine ag (i:=3) (v:=.int .i64 t) rfl (by kernel_rfl) (by kernel_rfl) (λ_ _ _ h=>h) (by kernel_rfl) (by kernel_rfl) (Or.inl ⟨by kernel_rfl,?_⟩) (by assumption) ?_
  .intro X s;(try dsimp only at s);go_simp
  simp only[Act.put,kqe,kqc,kqb,kqa,kqf,kqd];refine ag (i:=4) (v:=.pointer (some ⟨wr.heap.size,1,none⟩)) rfl (by kernel_rfl) (by kernel_rfl) (λ_ _ _ h=>h) (by kernel_rfl) (by kernel_rfl) (Or.inl ⟨by kernel_rfl,?_⟩) (by assumption) ?_
  .intro X s;(try dsimp only at s);go_simp
  simp only[Act.put,kqe,kqc,kqb,kqa,kqf,kqd];refine ag (i:=5) (v:=.slice V q xc) rfl (by kernel_rfl) (by kernel_rfl) (λ_ _ _ h=>h) (by kernel_rfl) (by kernel_rfl) (Or.inl ⟨by kernel_rfl,?_⟩) (by assumption) ?_
  .intro X s;(try dsimp only at s);go_simp
  simp only[Act.put,kqe,kqc,kqb,kqa,kqf,kqd];refine cM (i:=6) (by kernel_rfl) rfl (by kernel_rfl) (λK C=>?_);go_simp;refine (Jw.out WD Jr.out).mono ?_;rintro e8 w8 ⟨⟨I,E,rfl,D⟩,o⟩;go_simp;have G8:=hid (GD.out.up o GD.out.lt);have X8:=hid (XD.out.up o XD.out.lt);have O8:=hid (OD.out.below o (kqg _));have B8:=hid (P.out.trans (o.mono P.out.size));have GR8:=hid (GRD.out.trans (⟨o.os,o.tape,o.output,o.size,λr hr _=>o.block r hr⟩:WD.grownBy w8 (some d.heap.size)));have Jm:w5.heap.size<=WD.heap.size:=GRD.out.size;have N8:=hid D;have Li:=o.size;have Jn:∀y∈O',∀b,(Value.slice y.A y.l.length y.c).ownBlock=some b->b<WD.heap.size:=λy hy b hb=>((OD.out.2 y hy).lt b hb).2;have Kr:=hid Jn;have Kb:=And.intro G8.out.c3.2.1 (And.intro X8.out.c2.1 X8.out.c2.2.1);refine C _ _ (λ_=>Kb) ?_;clear C K D o GD OD XD Jr Jw P u GRD Jn;(try dsimp only[Act.put,kqe,kqc,kqb,kqa,kqf,kqd]);refine ag (i:=7) (v:=.agg #[.int .i64 t,.slice I q E]) rfl (by kernel_rfl) (by kernel_rfl) (λ_ _ _ h=>h) (by kernel_rfl) (by kernel_rfl) (Or.inl ⟨by kernel_rfl,?_⟩) (by assumption) ?_
  .intro X s;(try dsimp only at s);go_simp
  simp only[Act.put,kqe,kqc,kqb,kqa,kqf,kqd];clear Kb;refine cM (i:=8) (by kernel_rfl) rfl (by kernel_rfl) (λK C=>?_);go_simp;refine C _ _ (λ_=>⟨(G8.out.alloc _).c3.2.1,(X8.out.alloc _).c2.1,(X8.out.alloc _).c2.2.1⟩) ?_;clear C K;(try dsimp only[Act.put,kqe,kqc,kqb,kqa,kqf,kqd]);refine cM (i:=9) (by kernel_rfl) rfl (by kernel_rfl) (λK C=>?_);have O8':=hid (show w8.ownsRow w5.heap.size 135 2 (.slice OB k od) k (O'.flatMap Oj.cells) by have:=O8.out.1;rw[J.out] at this;exact this);refine fh _ _ _ 70 (by rfl) w5.heap.size 135 i2 _ 2 32 underlying70 HJ.out Lj.out Lc.out Lf.out rfl (by decide) (.slice OB k od) k (O'.flatMap Oj.cells) (by rfl) (O8'.out.alloc _) (w8.alloc (.cells #[.int .i64 t,.slice I q E] 135)).heap.size (some ⟨w8.heap.size,0,none⟩) 1 1 [.int .i64 t,.slice I q E] (by rfl) (by rfl) (Rd.of_own (cB (n:=1) (sz:=2) w8 135 #[.int .i64 t,.slice I q E] (kqg _) (by rfl) (by unfold maxLen;omega))) (by simp[Value.oneCell']) (by unfold maxLen;omega) (by omega) (by rw[kqn];omega) ?_;intro v1 w9 a g;obtain⟨TV,tv,rfl⟩:=aE a;have Jh:=aY O8'.out ob5
  have Jy:some wr.heap.size≠(Value.slice OB k od).ownBlock:=λh=>Kk.out h;have g9:=(G8.out.alloc (.cells #[.int .i64 t,.slice I q E] 135)).grown g Jh;have Ke:=And.intro g9.c3.2.1 (And.intro ((X8.out.alloc (.cells #[.int .i64 t,.slice I q E] 135)).grown g Jy).c2.1 ((X8.out.alloc (.cells #[.int .i64 t,.slice I q E] 135)).grown g Jy).c2.2.1);refine C _ _ (λ_=>Ke) ?_;have G9:=hid g9;have B9:=hid (aw B8.out B8.out.size (aB O8'.out (by omega)) g);have O9:=hid (λx j=>aU ((O8.out.2 x j).alloc (.cells #[.int .i64 t,.slice I q E] 135)) g (eQ (O8.out.2 x j) O8'.out (by decide)));have N9:=hid (aU (N8.out.alloc (.cells #[.int .i64 t,.slice I q E] 135)) g (eQ N8.out O8'.out (by decide)));have R9:=hid a;have GR9:=hid (show w5.grownBy w9 (some d.heap.size) from ⟨g.os.trans GR8.out.os,g.tape.trans GR8.out.tape,g.output.trans GR8.out.output,kza GR8.out.size (kza (by rw[kqn];omega) g.size),λr hr Kw=>by
   refine (g.block r (by rw[kqn];omega) (aY O8'.out hr)).trans ?_;exact ((kxf w8 _ none).block r (by omega) (by simp)).trans (GR8.out.block r hr Kw)⟩)
  obtain⟨-,gc9,-,-,gf9,-,gl9⟩:=g9.c3;clear C K a g Jh Jy g9 G8 X8 O8 N8 GR8 O8' Kk;(try dsimp only[Act.put,kqe,kqc,kqb,kqa,kqf,kqd]);refine ag (i:=10) (v:=.pointer (some ⟨d.heap.size,1,none⟩)) rfl (by kernel_rfl) (by kernel_rfl) (λ_ _ _ h=>h) (by kernel_rfl) (by kernel_rfl) (Or.inl ⟨by kernel_rfl,?_⟩) (by assumption) ?_
  .intro X s;(try dsimp only at s);go_simp
  simp only[Act.put,kqe,kqc,kqb,kqa,kqf,kqd];clear Ke;refine cM (i:=11) (by kernel_rfl) rfl (by kernel_rfl) (λK C=>?_);go_simp;refine C _ _ (λh=>absurd rfl h) ?_;clear C K;(try dsimp only[Act.put,kqe,kqc,kqb,kqa,kqf,kqd]);refine fZ (by kernel_rfl) ?_ _;have G10:=hid (G9.out.set_ 1 (.slice TV (k+1) tv));have B10:=hid (B9.out.setCell (p:=⟨d.heap.size,1,none⟩) (kqg _) (.slice TV (k+1) tv));have Kq:=hid (GR9.out.trans (fM w9 ⟨d.heap.size,1,none⟩ (.slice TV (k+1) tv)));have R10:=hid (ar (p:=⟨d.heap.size,1,none⟩) R9.out (aY R9.out ob5).symm (.slice TV (k+1) tv));have O10:=hid (λx j=>ar (p:=⟨d.heap.size,1,none⟩) (O9.out x j) (aY (O9.out x j) ob5).symm (.slice TV (k+1) tv));have N10:=hid (ar (p:=⟨d.heap.size,1,none⟩) (aB N9.out Jm) (aY (aB N9.out Jm) ob5).symm (.slice TV (k+1) tv));have NB:=hid (λb (hb:(Value.slice I q E).ownBlock=some b)=>(N9.out.lt b hb).1);clear gc9 gf9 G9 B9 R9 O9 N9 GR9;go_wp2;go_roundw
  case rel =>
   refine⟨k+1,TV,tv,O'++[⟨t,I,E,xl⟩],by omega,by go_num,by rw[kqw,J.out];rfl,hid (by rw[kxa,HE.out,Jp.out];rfl),G10,hid ⟨?_,λx j=>?_⟩,hid ?_,Kq,B10⟩
   .rw[kqw,J.out,kxl];show World.ownsRow _ _ _ _ _ _ (_++[.int .i64 t,.slice I xl.length E]);rw[Eq.out];exact R10.out
   .rcases kzo.1 j with j|j
    .exact O10.out x j
    rw[kq1] at j;subst j;dsimp only;rw[Eq.out];exact N10.out
   unfold kr;rw[kkm];refine⟨Kp.out,List.pairwise_singleton _ _,λy hy z hz b hb Js=>?_⟩;rw[kq1] at hz;subst hz;dsimp only at Js;rw[Eq.out] at Js;have:=NB.out b Js;have:=Kr.out y hy b hb;omega
  case measure=>simp[intOf];omega
 obtain rfl:n=k:=by omega
 have hE:O'.map Oj.ob=m.objs:=by rw[HE.out,<-HN.out,<-kqs (f:=Oj.ob),kz2];exact Lh.out
 have Kt:=hid hE;have Ku:decide ((n:Int)<(n:Int))=false:=by rw[kqh];omega
 have Kz:decide (n<n)=false:=by rw[kqh];exact U
 have TQ:=hid (OT.out.grown HG.out (λr hr=>by injection hr with hr;omega));have SQ:=hid (aj S1.out B'.out (kqg _));have BQ:=hid (Y.out.trans (B'.out.mono Y.out.size));have XQ:=hid (Y2.out.up B'.out Ky);have Jo:=hid R;have Ju:=hid (show L'.length=nt by have:=congrArg List.length Kn.out;have h2:=congrArg List.length Kf.out;rw[kqs] at this h2;rw[this,<-h2];exact Jq.out);obtain⟨x0,x1,x2,xf0,xf1,xf2,xl⟩:=XQ.out.c3;obtain⟨g0,g1,g2',-,-,-,-⟩:=G'.out.c3;clear hE U hk HE R HG G' B' G B OT S1 T1 O1 Y1 Y2 Y B1 XQ;go_wp2_with fail;refine kqv (v:=.agg #[.slice TB nt td,.slice OB n od,.slice SB ns sd]) (by simp[results,results72,go_sem,x0,x1,x2]) rfl ?_;have Q:∀ {e:TypeId} {sz n H:Nat} {v a0 a1 a2:Value} {xs:List Value},wr.ownsRow H e sz v n xs->w.heap.size+1<H->(((wr.setCell ⟨w.heap.size+1,0,none⟩ a0).setCell ⟨w.heap.size+1,1,none⟩ a1).setCell ⟨w.heap.size+1,2,none⟩ a2).ownsRow w.heap.size e sz v n xs:=λ{e sz n H v a0 a1 a2 xs} h hH=>aB (ar (p:=⟨w.heap.size+1,2,none⟩) (ar (p:=⟨w.heap.size+1,1,none⟩) (ar (p:=⟨w.heap.size+1,0,none⟩) h (aY h hH).symm _) (aY h hH).symm _) (aY h hH).symm _) (by omega);have Kh:w.heap.size+1<w5.heap.size:=by omega
 have Kj:w.heap.size+1<d.heap.size+1:=by omega
 refine⟨⟨TB,td,L',OB,od,O',SB,sd,by rw[Ju.out,Jo.out,Kc.out],?_,?_,Kp.out,?_,Kn.out,Kt.out⟩,((BQ.out.setCell (p:=⟨w.heap.size+1,0,none⟩) (kxe _) _).setCell (p:=⟨w.heap.size+1,1,none⟩) (kxe _) _).setCell (p:=⟨w.heap.size+1,2,none⟩) (kxe _) _⟩
 .rw[Ju.out];refine⟨?_,λx j=>Q (TQ.out.2 x j) Kj⟩;exact Q (by have:=TQ.out.1;rw[Ju.out] at this |-;exact this) Kj
 .rw[Jo.out];refine⟨?_,λx j=>Q (OO.out.2 x j) Kh⟩;exact Q (by have:=OO.out.1;rw[Jo.out] at this |-;exact this) Kh
 rw[Kc.out];exact Q SQ.out (kxs _)
theorem GV(adj:Nat->List Nat):∀f o n,o.length<=(kX adj f o n).length:=by
 intro f
 induction f with
 | zero=>intro o n;exact kqg _
 | succ f ih =>
  intro o n;simp only[kX];split
  .exact kqg _
  have a:∀(l:List Nat) o,o.length<=(l.foldl (kX adj f) o).length:=by
   intro l
   induction l with
   | nil=>intro o;exact kqg _
   | cons x l ihl=>intro o;exact kza (ih o x) (ihl _)
  have:=a (adj n) (o++[n]);rw[kqw] at this;omega
theorem Ez(adj:Nat->List Nat)(f:Nat):∀(l:List Nat) o,o.length<=(l.foldl (kX adj f) o).length:=by
 intro l
 induction l with
 | nil=>intro o;exact kqg _
 | cons x l ihl=>intro o;exact kza (GV adj f o x) (ihl _)
theorem zK{adj:Nat->List Nat}(h:n∈o):kX adj (f+1) o n=o:=by simp only[kX];rw[if_pos h]
theorem y7{adj:Nat->List Nat}(h:n ∉ o):kX adj (f+1) o n=(adj n).foldl (kX adj f) (o++[n]):=by simp only[kX];rw[if_neg h]
theorem AB(T:List (List Nat))(x:Ob)(j:Nat):CD T x (j+1)=CD T x j++(if qi T x.typ j=true/\fdO x j≠0 then [fdO x j-1] else []):=by
 unfold CD;rw[kj7,kkh];congr 1;simp only[kjw,kk1];split<;>rename_i h
 .split at h
  .cases h
  rw[if_neg (by assumption)]
 split at h
 .rw[if_pos (by assumption)];injection h with h;rw[h]
 cases h
def rU (n:Nat) (o:List Nat):Array Value:=((List.range n).map λi=>Value.int .i64 (jN o i:Int)).toArray
theorem gY(o:List Nat)(hk:k<n):(rU n o)[k]? = some (.int .i64 (jN o k:Int)):=by unfold rU;rw[List.getElem?_toArray,kzh,kxq hk];rfl
theorem De(h:k∈o):0<jN o k:=by unfold jN;rw[if_pos h];omega
theorem Dm(h:k ∉ o):jN o k=0:=by unfold jN;rw[if_neg h]
theorem tg(o:List Nat)(k:Nat):jN o k<=o.length:=by
 unfold jN;split
 .have:=List.idxOf_lt_length_of_mem (by assumption:k∈o);omega
 omega
theorem qK(h:k ∉ o)(i:Nat):jN (o++[k]) i=if i=k then o.length+1 else jN o i:=by
 unfold jN;by_cases e:i=k
 .subst e;rw[if_pos rfl,if_pos (by simp),List.idxOf_append,if_neg h];simp
 rw[if_neg e];by_cases b:i∈o
 .rw[if_pos b,if_pos (List.mem_append_left _ b),List.idxOf_append,if_pos b]
 rw[if_neg b,if_neg];intro a;rcases kzo.1 a with a|a
 .exact b a
 rw[kq1] at a;exact e a
theorem BU(hk:k<n)(h:k ∉ o):(rU n o).setIfInBounds k (.int .i64 ((o.length+1:Nat):Int))=rU n (o++[k]):=by
 apply kkw;intro i;rw[kjp];have hz:(rU n o).size=n:=by simp[rU]
 by_cases e:k=i
 .subst e;rw[if_pos rfl,if_pos (by omega),gY _ hk,qK h,if_pos rfl]
 rw[if_neg e];by_cases a:i<n
 .rw[gY _ a,gY _ a,qK h,if_neg (λh=>e h.symm)]
 rw[kz8 (by omega),kz8 (by simp[rU];omega)]
structure Vz (F NB H:Nat) (w w':World):Prop where
 os:w'.os=w.os
 tape:w'.tape=w.tape
 output:w'.output=w.output
 size:w.heap.size<=w'.heap.size
 low:∀r,r<H->r≠F->r≠NB->w'.heap[r]? = w.heap[r]?
 box:∀ {g:Nat} {t:TypeId} {cs:Array Value},t≠3->g≠F->Bx w g t cs->Bx w' g t cs
theorem Vz.refl(F NB H:Nat)(w:World):Vz F NB H w w:=⟨rfl,rfl,rfl,kqg _,λ_ _ _ _=>rfl,λ_ _ h=>h⟩
theorem Vz.trans{b c:World}(h:Vz F NB H a b)(k:Vz F NB H b c):Vz F NB H a c:=
 ⟨k.os.trans h.os,k.tape.trans h.tape,k.output.trans h.output,kza h.size k.size,λr d e f=>(k.low r d e f).trans (h.low r d e f),λd e f=>k.box d e (h.box d e f)⟩
theorem Vz.of_grown{row:Option Nat}(hg:w.grownBy w' row)(hH:H<=w.heap.size)(hr:∀r,row=some r->r<H->r=F\/r=NB)(hb:∀g t cs,t≠3->g≠F->Bx w g t cs->some g≠row):Vz F NB H w w':=
 ⟨hg.os,hg.tape,hg.output,hg.size,λr a c b=>hg.block r (by omega) (λe=>by rcases hr r e.symm a with h|h<;>omega),λa c b=>b.grown hg (hb _ _ _ a c b)⟩
theorem Vz.alloc(h:Vz F NB H a w)(hH:H<=w.heap.size)(o:Obj):Vz F NB H a (w.alloc o):=
 h.trans (Vz.of_grown (kxf w o none) hH (λr e=>by cases e) (λ_ _ _ _ _ _ e=>by cases e))
theorem Vz.drew(h:Vz F NB H a w):Vz F NB H a w.drew:=⟨h.os,h.tape,h.output,h.size,h.low,h.box⟩
theorem Vz.setF(h:Vz F NB H a w)(hH:H<=w.heap.size)(i:Nat)(v:Value):Vz F NB H a (w.setCell ⟨F,i,none⟩ v):=
 h.trans (Vz.of_grown (fM w ⟨F,i,none⟩ v) hH (λr e _=>by injection e with e;exact .inl e.symm) (λ_ _ _ _ b _ e=>by injection e with e;exact b e))
theorem Vz.setN{cs:Array Value}(h:Vz F NB H a w)(hH:H<=w.heap.size)(hn:Bx w NB 3 cs)(i:Nat)(v:Value):Vz F NB H a (w.setCell ⟨NB,i,none⟩ v):=
 h.trans (Vz.of_grown (fM w ⟨NB,i,none⟩ v) hH (λr e _=>by injection e with e;exact .inr e.symm) (λg t cs' b _ c e=>by
  injection e with e
  have e:g=NB:=e
  subst e
  have:=c.symm.trans hn
  injection this with this
  injection this with _ h4
  exact b h4))
theorem Vz.row(h:Vz F NB H a w)(hH:H<=w.heap.size)(ho:w.ownsRow H 3 1 v n xs)(hg:w.grownBy w' v.ownBlock):Vz F NB H a w':=
 h.trans (Vz.of_grown hg hH (λr e h2=>by have:=(ho.lt r e).1;omega) (λg t cs c _ f e=>by
  rcases ho.2 with⟨rfl,-⟩|⟨b,cap,cur,rfl,-,d,-⟩
  .cases e
  .injection e with e
   subst e
   have:=f.symm.trans d
   injection this with this
   injection this with _ h4
   exact c h4))
theorem Vz.below(h:Vz F NB H w w')(h1:B<=F)(h2:B<=NB)(h3:B<=H):Below B w w':=⟨h.os,h.tape,h.output,h.size,λr hr=>h.low r (by omega) (by omega) (by omega)⟩
theorem Vz.own{H' sz:Nat}{e:TypeId}{fc:Array Value}(h:Vz F NB H w w')(hF:Bx w F 140 fc)(he:e≠3)(he2:e≠140)(ho:w.ownsRow H' e sz v n xs):w'.ownsRow H' e sz v n xs:=by
 refine⟨ho.1,?_⟩;rcases ho.2 with a|⟨g,c,b,a,i,d,f⟩
 .exact .inl a
 refine .inr ⟨g,c,b,a,i,h.box he (λj=>?_) d,f⟩;subst j;have:=d.symm.trans hF;injection this with this;injection this with _ h6;exact he2 h6
structure MoSt (w:World) (H0:Nat) (TA OA:Option Addr) (tc oc:Nat) (L:List Ty) (O:List Oj):Prop where
 t:km w H0 (.slice TA L.length tc) L
 o:vF w H0 (.slice OA O.length oc) O
section
variable {w w':World} {H0 tc oc:Nat} {TA OA:Option Addr} {L:List Ty} {O:List Oj}
theorem MoSt.vz{fc:Array Value}(h:MoSt w H0 TA OA tc oc L O)(hv:Vz F NB H w w')(hF:Bx w F 140 fc):MoSt w' H0 TA OA tc oc L O:=
 ⟨⟨hv.own hF (by decide) (by decide) h.t.1,λx a=>hv.own hF (by decide) (by decide) (h.t.2 x a)⟩,⟨hv.own hF (by decide) (by decide) h.o.1,λx a=>hv.own hF (by decide) (by decide) (h.o.2 x a)⟩⟩
theorem MoSt.rl(h:MoSt w H0 TA OA tc oc L O):RdL w w.heap.size TA L:=⟨Rd.of_own h.t.1,λx a=>Rd.of_own (h.t.2 x a)⟩
theorem MoSt.ro(h:MoSt w H0 TA OA tc oc L O):RdO w w.heap.size OA O:=⟨Rd.of_own h.o.1,λx a=>Rd.of_own (h.o.2 x a)⟩
end
def intV (k:Nat):Value:=.int .i64 (k:Int)
structure FiSt (w:World) (F NB H:Nat) (m1 m2 m3:Value) (n:Nat) (o:List Nat) (OB:Option Addr) (od:Nat):Prop where
 fin:Bx w F 140 #[m1,m2,m3,.slice (some ⟨NB,0,none⟩) n n,.slice OB o.length od]
 num:Bx w NB 3 (rU n o)
 ord:w.ownsRow H 3 1 (.slice OB o.length od) o.length (o.map intV)
 nd:o.Nodup
 lt:∀x∈o,x<n
theorem jW(h:o.Nodup)(hl:∀x∈o,x<n):o.length<=n:=by
 have:=h.length_le_of_subset (l₂:=List.range n) λx a=>kq8.2 (hl x a)
 simpa using this
end Go.Proofs.YtpcajamacpbjcaaGreat
