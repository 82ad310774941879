/- Texts laid together: R02S SupP SupR SupS SupT. -/
import Derived.Test.YtpcajamacpbjcaaGreatZKMove
import Derived.Test.YtpcajamacpbjcaaGreatZKImage
import Derived.Test.YtpcajamacpbjcaaGreatZKRef15
import Derived.Test.YtpcajamacpbjcaaGreatZKStg2
set_option maxHeartbeats 16000000
set_option maxRecDepth 100000
set_option linter.all false
namespace Go.Proofs.YtpcajamacpbjcaaGreat
open Lib (hid)
open Go.RowKit
variable {fn:Func}{l ws:List Nat}{a g:Nat}{p q:Tmp}{t:TypeId}{u v0 v1:Value}{W:World}
open Go.Proofs.Tryz
theorem Cl(A B:Option Addr)(a b:List Nat)(n m c d H:Nat)(w:World)(hn:a.length=n)(hm:b.length=m)(h1:n<=1000000)(ha:RdW w H A a)(hb:RdW w H B b)(hH:H<=w.heap.size):
 Calls prog 79 #[.slice A n c,.slice B m d] w λe w'=>e=.returned (.bool (decide (a=b)))/\Below w.heap.size w w':=by
 subst hn hm;have Q:=hid (ha.more hH);have N:=hid (hb.more hH);clear ha hb hH;by_cases l:a.length=b.length
 .have I:Hid (a.take a.length=b.take a.length->decide (a=b)=true):=hid λh=>tP l h;have v:Hid (∀k (h:k<a.length) (D:k<b.length),a[k]≠b[k]->decide (a=b)=false):=hid λk h D P=>zw h D P;obtain⟨q,J⟩:=xq (decide (a=b));rw[J] at I v |-;have z:((a.length:Int) != (b.length:Int))=false:=by rw[kqq];omega
  have u:(a.length != b.length)=false:=by rw[kqq];exact l
  have T:=hid l;clear J l;go_enter func79,ntmps79;go_wp2_with fail;go_loopw [5] (λi wr=>∃k:Nat,k<=a.length/\i=.int .i64 k/\Hid (a.take k=b.take k)/\Below w.heap.size w wr) (λi _=>a.length-(intOf i).toNat)
  case atStart=>exact⟨0,kqy _,rfl,rfl,kql _ _⟩
  obtain⟨k,hk,rfl,K,t⟩:=hrel;by_cases g:k<a.length
  .have f:k<b.length:=by have:=T.out;omega
   obtain⟨G,L,rfl,hg1,S⟩:=RdW.at_ (Rd.below Q.out t) g;obtain⟨M,E,rfl,hg2,O⟩:=RdW.at_ (Rd.below N.out t) f;have j:=hid (λh=>rg g f K.out h);have o:=hid (v.out k g f);obtain⟨x,C⟩:=xq (a[k]);obtain⟨y,F⟩:=xq (b[k]);rw[C] at S j o;rw[F] at O j o;have hk1:(k:Int)<(a.length:Int):=by omega
   have hk2:(k:Int)<(b.length:Int):=by omega
   have hk0:(0:Int)<=(k:Int):=by omega
   clear C F;have p:((x==y)=true/\((x:Int) != (y:Int))=false/\(x != y)=false)\/((x==y)=false/\((x:Int) != (y:Int))=true/\(x != y)=true):=by
    by_cases e:x=y
    .left;subst e;simp
    right;exact⟨by rw[kqi];exact e,by rw[kqt];omega,by rw[kqt];exact e⟩
   rcases p with⟨r,R,U⟩|⟨r,R,U⟩
   .have s:=hid (j.out (by rw[kqx] at r;exact r));go_wp2_with fail
    first
     | (go_region_held3 (λX:World=>X.cell? ⟨G,L+k,none⟩=some (.int .u64 (x:Int))/\X.cell? ⟨M,E+k,none⟩=some (.int .u64 (y:Int))) (go_keep) (fail))
     | fail
    go_wp2;go_roundw
    case rel=>exact⟨k+1,by omega,by go_num,s.out,t.drew⟩
    case measure=>simp[intOf];omega
   have s:=hid (o.out (by intro h;rw[h] at r;simp at r));go_wp2_with fail
   first
    | (go_region_held3 (λX:World=>X.cell? ⟨G,L+k,none⟩=some (.int .u64 (x:Int))/\X.cell? ⟨M,E+k,none⟩=some (.int .u64 (y:Int))) (go_keep) (fail))
    | fail
   go_wp2;go_ret;exact⟨by rw[s.out];rfl,t.drew⟩
  have s:=hid (I.out (by have:=K.out;rwa [show k=a.length by omega] at this));go_wp2;go_ret;exact⟨by rw[s.out];rfl,t⟩
 have v:=hid (uR l);have z:((a.length:Int) != (b.length:Int))=true:=by rw[kqt];omega
 have u:(a.length != b.length)=true:=by rw[kqt];exact l
 clear l;go_enter func79,ntmps79;go_wp2;go_ret;exact⟨by rw[v.out];rfl,kql _ _⟩
def sp7 (n t:Nat):List Nat:=[32777959566500194,1,n,t,0,0,0]
def spL (n t:Nat):List Nat:=sp7 n t++[a8 14695981039346656037 (sp7 n t)]
theorem pe(n t:Nat):(spL n t).length=8:=rfl
def pV (l:List Nat):Bool:=al ((wd l 2:Nat):Int)&&(decide (wd l 3<=8)&&decide (spL (wd l 2) (wd l 3)=l))
def jD (l:List Nat):Int:=if pV l=true then 0 else 50
def spV (l:List Nat):Value:=if pV l=true then .agg #[.int .i64 ((wd l 2:Nat):Int),.int .i64 ((wd l 3:Nat):Int)] else .agg #[.int .i64 0,.int .i64 0]
def sp8 (ws:List Nat) (a:Nat):List Nat:=(ws.drop a).take 8
theorem kx{i:Nat}(h:i<8):wd (sp8 ws a) i=wd ws (a+i):=by unfold sp8 wd;rw[List.getElem?_take,if_pos h,kx8]
def jL (ws:List Nat) (a:Nat):Bool:=pV (sp8 ws a)&&wd ws (a+2)==ws.length
def tyN (ws:List Nat):Option Nat:=if jL ws 0=true then some (wd ws 3) else if jL ws 8=true then some (wd ws 11) else none
theorem jS(l:List Nat):pV l=true↔al ((wd l 2:Nat):Int)=true/\wd l 3<=8/\spL (wd l 2) (wd l 3)=l:=by unfold pV;simp
theorem m9{t:Nat}(h:tyN ws=some t):t<=8:=by
 unfold tyN at h;split at h
 .rename_i h1;simp only[Option.some.injEq] at h;unfold jL at h1;rw[kqz] at h1;have:=((jS _).1 h1.1).2.1;rw[kx (by omega)] at this;simp at this;omega
 split at h
 .rename_i h1;simp only[Option.some.injEq] at h;unfold jL at h1;rw[kqz] at h1;have:=((jS _).1 h1.1).2.1;rw[kx (by omega)] at this;simp at this;omega
 cases h
def iI (n t:Nat):Int:=if al (n:Int)=true then (if t<=8 then 0 else 8) else 8
theorem xh(n t:Nat)(w:World)(hn:n<=1000000)(ht:t<=1000000):
 Calls prog 286 #[.agg #[.int .i64 (n:Int),.int .i64 (t:Int)]] w λe w'=>e=.returned (.int .i64 (iI n t))/\Below w.heap.size w w':=by
 have d:=hid ((kql w.heap.size w).alloc (kqg _) (.cells #[.int .i64 (n:Int),.int .i64 (t:Int)] 126));have c:=hid (λW=>qy n W (by omega));have d1:decide ((t:Int)<0)=false:=by rw[kqh];omega
 cases a:al (n:Int)
 .have b:=hid (show iI n t=8 by simp[iI,a]);rw[a] at c;clear a;go_enter func286,ntmps286;go_wp2_with fail;refine (c.out _).mono ?_;rintro e g ⟨rfl,rfl⟩;go_wp2;go_ret;exact⟨by rw[b.out];rfl,d.out⟩
 rw[a] at c;by_cases h:t<=8
 .have b:=hid (show iI n t=0 by simp[iI,a,h]);have i:decide ((8:Int)<(t:Int))=false:=by rw[kqh];omega
  have f:decide (8<t)=false:=by rw[kqh];omega
  clear a;go_enter func286,ntmps286;go_wp2_with fail;refine (c.out _).mono ?_;rintro e g ⟨rfl,rfl⟩;go_wp2;go_ret;exact⟨by rw[b.out];rfl,d.out⟩
 have b:=hid (show iI n t=8 by simp[iI,a,h]);have i:decide ((8:Int)<(t:Int))=true:=by rw[kqo];omega
 have f:decide (8<t)=true:=by rw[kqo];omega
 clear a;go_enter func286,ntmps286;go_wp2_with fail;refine (c.out _).mono ?_;rintro e g ⟨rfl,rfl⟩;go_wp2;go_ret;exact⟨by rw[b.out];rfl,d.out⟩
theorem BK:(prog.info? 53).map (λi=>(i.zero,i.size,i.bytes))=some (some (.int .u64 0),1,8):=by kernel_rfl
theorem lx(n t:Nat)(w:World)(hn:n<=1000000)(ht:t<=1000000):
 Calls prog 109 #[.agg #[.int .i64 (n:Int),.int .i64 (t:Int)]] w λe w'=>(∃A c,e=.returned (.slice A 8 c)/\w'.ownsRow w.heap.size 53 1 (.slice A 8 c) 8 ((spL n t).flatMap ai))/\Below w.heap.size w w':=by
 have D:=hid (λA W (E:RdW W W.heap.size A (sp7 n t))=>po A (sp7 n t) 7 7 W rfl (by omega) E (λx F=>by
  simp only[sp7,kq0,kzu,or_false] at F;omega))
 have B:=hid (show (spL n t).flatMap ai=[.int .u64 32777959566500194,.int .u64 1,.int .u64 (n:Int),.int .u64 (t:Int),.int .u64 0,.int .u64 0,.int .u64 0]++[.int .u64 ((a8 14695981039346656037 (sp7 n t):Nat):Int)] by
  unfold spL;rw[bP];rfl)
 obtain⟨q,C⟩:=xq (a8 14695981039346656037 (sp7 n t));rw[C] at D B;have p:=hid ((kql w.heap.size w).alloc (kqg _) (.cells #[.int .i64 (n:Int),.int .i64 (t:Int)] 126));have w1:IntKind.u64.wrap (n:Int)=(n:Int):=kzs _ (by omega);have w2:IntKind.u64.wrap (t:Int)=(t:Int):=kzs _ (by omega);clear C;obtain⟨G,z,i,m,k⟩:=kzt BK;have J:=hid z;have u:=hid i;have r:=hid m;have s:=hid k;clear z i m k;go_enter func109,ntmps109;go_wp2_with fail;obtain⟨o,f⟩:∃o,w.alloc (.cells #[.int .i64 (n:Int),.int .i64 (t:Int)] 126)=o:=⟨_,rfl⟩;have j:o.heap.size=w.heap.size+1:=by rw[<-f,kqn]
 rw[f] at p |-;have l:=p.out.size;have a:=cB (n:=7) (sz:=1) o 53 #[.int .u64 32777959566500194,.int .u64 1,.int .u64 (n:Int),.int .u64 (t:Int),.int .u64 0,.int .u64 0,.int .u64 0] l rfl (by unfold maxLen;omega);rw[j] at a;clear j;refine (D.out _ _ (show Rd _ _ _ _ from Rd.of_own a)).mono ?_;rintro e w5 ⟨rfl,h⟩;have b:=aj a h (kqg _);have g:=hid ((p.out.alloc l (.cells #[.int .u64 32777959566500194,.int .u64 1,.int .u64 (n:Int),.int .u64 (t:Int),.int .u64 0,.int .u64 0,.int .u64 0] 53)).trans (h.mono (by simp;omega)));clear f a h;go_wp2_with (at_builtin;refine kzn _ rfl _ _ 22 rfl w.heap.size 53 G _ 1 8 underlying22 J.out u.out r.out s.out rfl (by decide) _ _ _ rfl (b.alloc _) ⟨_,0,none⟩ 1 1 [.int .u64 (q:Int)] rfl rfl (bY _ _ _) (by simp[Value.oneCell']) (by unfold maxLen;omega) (by omega) (bM g.out.size) ?_;intro v1 w6 d y _;have v:=aw g.out g.out.size b y);obtain⟨I,H,rfl⟩:=aE d;go_ret;exact⟨⟨I,H,rfl,by rw[B.out];exact d⟩,v⟩
theorem cc(h:fn.results=#[.cell p 126,.tmp q])(tmps:Array Value)(hb:Bx W g t #[v0,v1])(hp:tmps.getD p undef=.pointer (some ⟨g,0,none⟩))(hq:tmps.getD q undef=u):
 (results fn tmps).run prog W=.ok (.tuple #[.agg #[v0,v1],u]) W:=by obtain⟨a,b,-⟩:=hb.c2;rw[kxp] at hp hq;simp[results,h,hp,hq,go_sem,a,b]
theorem nz(h:pV l=false):spV l=.agg #[.int .i64 0,.int .i64 0]/\jD l=50:=by simp[spV,jD,h]
theorem mg(h:pV l=true):spV l=.agg #[.int .i64 ((wd l 2:Nat):Int),.int .i64 ((wd l 3:Nat):Int)]/\jD l=0:=by simp[spV,jD,h]
theorem ut(h:¬ (al ((wd l 2:Nat):Int)=true/\wd l 3<=8)):pV l=false:=by
 cases a:pV l with
 | false=>rfl
 | true=>exact absurd ⟨((jS l).1 a).1,((jS l).1 a).2.1⟩ h
theorem zP(A:Option Addr)(l:List Nat)(c:Nat)(w:World)(hn:l.length=8)(hr:RdW w w.heap.size A l):
 Calls prog 260 #[.slice A 8 c] w λe w'=>e=.returned (.tuple #[spV l,.int .i64 (jD l)])/\Below w.heap.size w w':=by
 obtain⟨b,g,rfl,hb,c2⟩:=RdW.at_ hr (show 2<l.length by omega);obtain⟨b',off',e',-,c3⟩:=RdW.at_ hr (show 3<l.length by omega);cases e';rw[<-ce] at c2 c3;have P:=hid (λh=>ac ((wd l 2:Nat):Int) |>.1 h);have i:=hid (λh=>ut (l:=l) h);have s:=hid (λh=>nz (l:=l) h);have u:=hid (λh=>mg (l:=l) h);have D:Hid (al ((wd l 2:Nat):Int)=true->wd l 3<=8->pV l=decide (spL (wd l 2) (wd l 3)=l)):=hid λh1 h2=>by
  unfold pV;rw[h1,decide_eq_true h2];rfl
 have HR:=hid hr;have x0:=Bx.new w 126 #[.int .i64 0,.int .i64 0];have R:=hid x0;have E:=hid ((kql w.heap.size w).alloc (kqg _) (.cells #[.int .i64 0,.int .i64 0] 126));have L:=(kq4 w (.cells #[.int .i64 0,.int .i64 0] 126) ⟨b,g+2,none⟩ hb).trans c2;have O:=(kq4 w (.cells #[.int .i64 0,.int .i64 0] 126) ⟨b,g+3,none⟩ hb).trans c3;have HL:=hid hn;obtain⟨x,hx⟩:=xq (wd l 2);obtain⟨y,hy⟩:=xq (wd l 3);rw[hx] at P i u D L;rw[hy] at i u D O;clear hx hy c2 c3 hr hn x0;by_cases H:1000000<x
 .have a:=hid (s.out (i.out λh=>by have:=P.out h.1;omega));have d1:decide ((1000000:Int)<(x:Int))=true:=by rw[kqo];omega
  have d1n:decide (1000000<x)=true:=by rw[kqo];omega
  go_enter func260,ntmps260;go_wp2_with fail;exact kqv (v:=.tuple #[.agg #[.int .i64 0,.int .i64 0],.int .i64 50]) (cc results260 _ R.out rfl rfl) rfl ⟨by rw[a.out.1,a.out.2],E.out⟩
 have d1:decide ((1000000:Int)<(x:Int))=false:=by rw[kqh];omega
 have d1n:decide (1000000<x)=false:=by rw[kqh];omega
 by_cases Jb:1000000<y
 .have a:=hid (s.out (i.out λh=>by have:=h.2;omega));have d2:decide ((1000000:Int)<(y:Int))=true:=by rw[kqo];omega
  have d2n:decide (1000000<y)=true:=by rw[kqo];omega
  clear H;go_enter func260,ntmps260;go_wp2_with fail;exact kqv (v:=.tuple #[.agg #[.int .i64 0,.int .i64 0],.int .i64 50]) (cc results260 _ R.out rfl rfl) rfl ⟨by rw[a.out.1,a.out.2],E.out⟩
 have d2:decide ((1000000:Int)<(y:Int))=false:=by rw[kqh];omega
 have d2n:decide (1000000<y)=false:=by rw[kqh];omega
 have HC:=hid (λW=>xh x y W (by omega) (by omega));have HW:=hid (λW=>lx x y W (by omega) (by omega));have w1:IntKind.i64.wrap (x:Int)=(x:Int):=kqr _ (by omega);have w2:IntKind.i64.wrap (y:Int)=(y:Int):=kqr _ (by omega);have Eq:=hid (pe x y);clear H Jb;go_enter func260,ntmps260;go_wp2_with fail
 go_region_held3 (λX:World=>X.cell? ⟨b,g+2,none⟩=some (.int .u64 (x:Int))/\X.cell? ⟨b,g+3,none⟩=some (.int .u64 (y:Int))) (go_keep) (fail)
 go_wp2_with fail;obtain⟨F,j⟩:∃F,((w.alloc (.cells #[.int .i64 0,.int .i64 0] 126)).alloc (.cells #[.int .i64 (x:Int),.int .i64 (y:Int)] 126)).drew=F:=⟨_,rfl⟩;have X1:=hid (show Bx F w.heap.size 126 #[.int .i64 0,.int .i64 0] by rw[<-j];exact R.out.alloc _);have T:Bx F (w.heap.size+1) 126 #[.int .i64 (x:Int),.int .i64 (y:Int)]:=by rw[<-j];have:=Bx.new (w.alloc (.cells #[.int .i64 0,.int .i64 0] 126)) 126 #[.int .i64 (x:Int),.int .i64 (y:Int)];rw[kqn] at this;exact this
 have q:Below w.heap.size w F:=by rw[<-j];exact (E.out.alloc (by simp) _).drew
 have V:=hid (HR.out.up q q.size);have hz5:w.heap.size+1<F.heap.size:=T.lt;have M:=hid q;rw[j];have hH:=‹_/\_›;clear hH j q L O R;refine (HC.out _).mono ?_;rintro e w6 ⟨rfl,f⟩;have r:=hid (X1.out.up f X1.out.lt);have t:=T.up f T.lt;obtain⟨q0,q1,-,-,Ja⟩:=t.c2;have K:=hid t;have C:=hid (M.out.trans (f.mono M.out.size));have Z:=hid (V.out.up f f.size);clear T t f HC;by_cases n:iI x y=0
 .have B:al (x:Int)=true/\y<=8:=by
   unfold iI at n;split at n
   .split at n
    .exact ⟨by assumption,by assumption⟩
    exact absurd n (by decide)
   exact absurd n (by decide)
  have p:=hid (D.out B.1 B.2);rw[n];clear n B;go_wp2_with fail;refine (HW.out _).mono ?_;rintro e U ⟨⟨A7,c7,rfl,k⟩,d⟩;have Jc:=hid (Z.out.up d d.size);have Q:=hid (r.out.up d r.out.lt);have N:=hid (K.out.up d K.out.lt);have J:=hid (C.out.trans (d.mono C.out.size));have Y:=hid (show RdW U U.heap.size A7 (spL x y) from Rd.of_own k);clear k d q0 q1 Ja;go_wp2_with fail;refine (Cl A7 (some ⟨b,g,none⟩) (spL x y) l 8 8 c7 c U.heap.size U Eq.out HL.out (by omega) Y.out Jc.out (kqg _)).mono ?_;rintro e w8 ⟨rfl,m⟩;have o:=Q.out.up m Q.out.lt;have G:=hid o;have z:=N.out.up m N.out.lt;obtain⟨q0,q1,-,-,hg8⟩:=z.c2;obtain⟨r0,r1,f0,f1,Jd⟩:=o.c2;have I:=hid (J.out.trans (m.mono J.out.size));cases S:decide (spL x y=l)
  .rw[S] at p;have a:=hid (s.out p.out);clear S o z m;go_wp2_with fail;exact kqv (v:=.tuple #[.agg #[.int .i64 0,.int .i64 0],.int .i64 50]) (cc results260 _ ((G.out.set_ 0 _).set_ 1 _) rfl rfl) rfl ⟨by rw[a.out.1,a.out.2],(I.out.setCell (by simp) _).setCell (by simp) _⟩
  rw[S] at p;have a:=hid (u.out p.out);clear S o z m;go_wp2_with fail;exact kqv (v:=.tuple #[.agg #[.int .i64 (x:Int),.int .i64 (y:Int)],.int .i64 0]) (cc results260 _ ((G.out.set_ 0 _).set_ 1 _) rfl rfl) rfl ⟨by rw[a.out.1,a.out.2],(I.out.setCell (by simp) _).setCell (by simp) _⟩
 have a:=hid (s.out (i.out λh=>n (by unfold iI;rw[if_pos h.1,if_pos h.2])));have hne:(iI x y != 0)=true:=by rw[kqt];exact n
 obtain⟨r0,r1,f0,f1,Jd⟩:=r.out.c2;clear n;go_wp2_with fail;exact kqv (v:=.tuple #[.agg #[.int .i64 0,.int .i64 0],.int .i64 50]) (cc results260 _ ((r.out.set_ 0 _).set_ 1 _) rfl rfl) rfl ⟨by rw[a.out.1,a.out.2],(C.out.setCell (by simp) _).setCell (by simp) _⟩
def cpV (ws:List Nat) (a:Nat):Value:=if jL ws a=true then .agg #[.int .i64 ((wd ws (a+2):Nat):Int),.int .i64 ((wd ws (a+3):Nat):Int)] else .agg #[.int .i64 0,.int .i64 0]
theorem kY(h:a+8<=ws.length):(sp8 ws a).length=8:=by unfold sp8;rw[kq6,kxc];omega
theorem zC{w:World}{B:Nat}{A:Option Addr}(h:RdW w B A ws)(a:Nat):RdW w B (A.map (·.add a)) (sp8 ws a):=by unfold RdW sp8 at *;rw[kV _ aZ,nU _ aZ];exact (Rd.drop_ h a).take_ 8
theorem qR(A:Option Addr)(ws:List Nat)(c n k:Nat)(w:World)(hn:ws.length=n)(hm:n<=2048)(h256:256<=n)(hk:k<=1)(hc:n<=c)(F:RdW w w.heap.size A ws):
 Calls prog 210 #[.slice A n c,.int .i64 (k:Int)] w λe w'=>e=.returned (.tuple #[cpV ws (8*k),.bool (jL ws (8*k))])/\Below w.heap.size w w':=by
 subst hn;obtain⟨b,u,rfl,hb,-⟩:=RdW.at_ F (show 0<ws.length by omega);have M:=kY (ws:=ws) (a:=8*k) (by omega);have K:=λW (F:RdW W W.heap.size (some ⟨b,u,none⟩) ws)=>zC F (8*k);have p:=hid (λW (F:RdW W W.heap.size (some ⟨b,u,none⟩) ws)=>(zP (some ⟨b,u+8*k,none⟩) (sp8 ws (8*k)) (c-8*k) W M (by
  have:=K W F;simp only[kzk] at this;have e:(⟨b,u,none⟩:Addr).add (8*k)=⟨b,u+8*k,none⟩:=by unfold Addr.add;split<;>simp_all
  rw[e] at this;exact this)))
 have Q:=hid F;have x0:=Bx.new w 126 #[.int .i64 0,.int .i64 0];have G:=hid x0;have d:=hid ((kql w.heap.size w).alloc (kqg _) (.cells #[.int .i64 0,.int .i64 0] 126));have N:wd (sp8 ws (8*k)) 2=wd ws (8*k+2):=kx (by omega);have O:wd (sp8 ws (8*k)) 3=wd ws (8*k+3):=kx (by omega);have B:jL ws (8*k)=(pV (sp8 ws (8*k))&&wd ws (8*k+2)==ws.length):=rfl;have k1:IntKind.i64.wrap ((8:Int)*(k:Int))=((8*k:Nat):Int):=by rw[kqr _ (by omega)];omega
 have k2:IntKind.i64.wrap (((8*k:Nat):Int)+8)=((8*k+8:Nat):Int):=by rw[kqr _ (by omega)];omega
 have k3:8*k+8<=c:=by omega
 have k4:8*k<=8*k+8:=by omega
 obtain⟨j,hj⟩:=xq (8*k);rw[hj] at p k1 k2 k3 k4 B N O |-;obtain⟨l,Z⟩:=xq (sp8 ws j);rw[Z] at p B N O;clear F x0 M K Z;have m:∀r:Bool,jL ws j=r->Hid (cpV ws j=if r=true then .agg #[.int .i64 ((wd ws (j+2):Nat):Int),.int .i64 ((wd ws (j+3):Nat):Int)] else .agg #[.int .i64 0,.int .i64 0]):=λr h=>hid (by unfold cpV;rw[h]);have C:=hid (λh=>nz (l:=l) h);have f:=hid (λh=>mg (l:=l) h);rw[N,O] at f;have m:=hid m;have o:=hid B;obtain⟨x,R⟩:=xq (wd ws (j+2));obtain⟨y,S⟩:=xq (wd ws (j+3));rw[R] at o m f;rw[S] at m f;clear R S N O B;cases E:pV l
 .have D:=C.out E;have g:jL ws j=false:=by rw[o.out,E];rfl
  have H:=m.out _ g;have z:=hid g;rw[D.1,D.2] at p;clear E D g C f o m;go_enter func210,ntmps210;go_wp2_with fail;refine (p.out _ (Q.out.up d.out d.out.size)).mono ?_;rintro e L ⟨rfl,i⟩;have q:=G.out.up i G.out.lt;obtain⟨Y,V,U,T,X⟩:=q.c2;have J:=hid q;have t:=hid (d.out.trans (i.mono d.out.size));have I:w.heap.size<L.heap.size:=q.lt;clear q i;go_wp2_with fail;exact kqv (v:=.tuple #[.agg #[.int .i64 0,.int .i64 0],.bool false]) (cc results210 _ (((J.out.set_ 0 _).set_ 1 _).alloc _) rfl rfl) rfl ⟨by rw[H.out,z.out];rfl,((t.out.setCell (kqg _) _).setCell (kqg _) _).alloc (by simp;omega) _⟩
 have D:=f.out E;rw[D.1,D.2] at p;by_cases s:x=ws.length
 .have g:jL ws j=true:=by rw[o.out,E,s];simp
  have H:=m.out _ g;have z:=hid g;have d1:((x:Int) != (ws.length:Int))=false:=by rw[kqq];omega
  have P:(x != ws.length)=false:=by rw[kqq];exact s
  clear E D g C f o m s;go_enter func210,ntmps210;go_wp2_with fail;refine (p.out _ (Q.out.up d.out d.out.size)).mono ?_;rintro e L ⟨rfl,i⟩;have q:=G.out.up i G.out.lt;obtain⟨Y,V,U,T,X⟩:=q.c2;have J:=hid q;have t:=hid (d.out.trans (i.mono d.out.size));have I:w.heap.size<L.heap.size:=q.lt;clear q i;go_wp2_with fail;exact kqv (v:=.tuple #[.agg #[.int .i64 (x:Int),.int .i64 (y:Int)],.bool true]) (cc results210 _ (((J.out.set_ 0 _).set_ 1 _).alloc _) rfl rfl) rfl ⟨by rw[H.out,z.out];rfl,((t.out.setCell (kqg _) _).setCell (kqg _) _).alloc (by simp;omega) _⟩
 have g:jL ws j=false:=by rw[o.out,E];simp[s]
 have H:=m.out _ g;have z:=hid g;have d1:((x:Int) != (ws.length:Int))=true:=by rw[kqt];omega
 have P:(x != ws.length)=true:=by rw[kqt];exact s
 clear E D g C f o m s;go_enter func210,ntmps210;go_wp2_with fail;refine (p.out _ (Q.out.up d.out d.out.size)).mono ?_;rintro e L ⟨rfl,i⟩;have q:=G.out.up i G.out.lt;obtain⟨Y,V,U,T,X⟩:=q.c2;have J:=hid q;have t:=hid (d.out.trans (i.mono d.out.size));have I:w.heap.size<L.heap.size:=q.lt;clear q i;go_wp2_with fail;exact kqv (v:=.tuple #[.agg #[.int .i64 0,.int .i64 0],.bool false]) (cc results210 _ (((J.out.set_ 0 _).set_ 1 _).alloc _) rfl rfl) rfl ⟨by rw[H.out,z.out];rfl,((t.out.setCell (kqg _) _).setCell (kqg _) _).alloc (by simp;omega) _⟩
def ir (ws:List Nat):Int:=if al (ws.length:Int)=true then (if (tyN ws).isSome=true then 0 else 50) else 8
def vW (ws:List Nat) (e:Ending):Prop:=∃(a:Int) (b0 b1:Bool),e=.returned (.tuple #[.agg #[.int .i64 a,.int .i64 (((tyN ws).getD 0:Nat):Int)],.agg #[.bool b0,.bool b1],.int .i64 (ir ws)])
theorem co{r:Tmp}(h:fn.results=#[.cell p 126,.cell q 127,.tmp r])(tmps:Array Value){g':Nat}{t':TypeId}{u0 u1:Value}(hb:Bx W g t #[v0,v1])(hb':Bx W g' t' #[u0,u1])(hp:tmps.getD p undef=.pointer (some ⟨g,0,none⟩))(hp':tmps.getD q undef=.pointer (some ⟨g',0,none⟩))(hq:tmps.getD r undef=u):
 (results fn tmps).run prog W=.ok (.tuple #[.agg #[v0,v1],.agg #[u0,u1],u]) W:=by obtain⟨b,c,-⟩:=hb.c2;obtain⟨a,d,-⟩:=hb'.c2;rw[kxp] at hp hp' hq;simp[results,h,hp,hp',hq,go_sem,b,c,a,d]
theorem sx(h:al (ws.length:Int)=false):tyN ws=none/\ir ws=8:=by
 have b:∀a,jL ws a=false:=λa=>by
  cases c:jL ws a with
  | false=>rfl
  | true =>unfold jL at c;simp only[kqz,kqx] at c;have d:=((jS _).1 c.1).1;rw[kx (by omega),c.2,h] at d;cases d
 exact⟨by unfold tyN;rw[b,b];rfl,by unfold ir;rw[h];rfl⟩
theorem zq :ir ws=0↔al (ws.length:Int)=true/\(tyN ws).isSome=true:=by
 unfold ir;split
 .split<;>simp_all
 simp_all
theorem ru(A:Option Addr)(ws:List Nat)(c n:Nat)(w:World)(hn:ws.length=n)(hm:n<=9223372036854775807)(hc:n<=c)(F:RdW w w.heap.size A ws):
 Calls prog 149 #[.slice A n c] w λe w'=>vW ws e/\Below w.heap.size w w':=by
 subst hn;have N:=hid F;have s:=hid (λW=>lz A ws.length c W hm);have i:=hid (((kql w.heap.size w).alloc (kqg _) (.cells #[.int .i64 0,.int .i64 0] 126)).alloc (by simp) (.cells #[.bool false,.bool false] 127));have Q:=(Bx.new w 126 #[.int .i64 0,.int .i64 0]).alloc (.cells #[.bool false,.bool false] 127);have O:=Bx.new (w.alloc (.cells #[.int .i64 0,.int .i64 0] 126)) 127 #[.bool false,.bool false];rw[kqn] at O;have J:=hid Q;have M:=hid O;clear Q O F;cases z:al (ws.length:Int)
 .have f:=hid (sx z);rw[bA z] at s;clear z;go_enter func149,ntmps149;go_wp2_with fail;refine (s.out _).mono ?_;rintro e T ⟨rfl,rfl⟩;go_wp2_with fail;exact kqv (v:=.tuple #[.agg #[.int .i64 0,.int .i64 0],.agg #[.bool false,.bool false],.int .i64 8]) (co results149 _ J.out M.out rfl rfl rfl) rfl ⟨⟨0,false,false,by rw[f.out.1,f.out.2];rfl⟩,i.out⟩
 have U:=(ac _).1 z;rw[aW z] at s;have g:=hid (λW (F:RdW W W.heap.size A ws)=>(show Calls prog 210 #[.slice A ws.length c,.int .i64 0] W λe w'=>e=.returned (.tuple #[cpV ws 0,.bool (jL ws 0)])/\Below W.heap.size W w' from qR A ws c ws.length 0 W rfl (by omega) (by omega) (by omega) hc F));have d:=hid (λW (F:RdW W W.heap.size A ws)=>(show Calls prog 210 #[.slice A ws.length c,.int .i64 1] W λe w'=>e=.returned (.tuple #[cpV ws 8,.bool (jL ws 8)])/\Below W.heap.size W w' from qR A ws c ws.length 1 W rfl (by omega) (by omega) (by omega) hc F));have f:Hid (tyN ws=(if jL ws 0=true then some (wd ws 3) else if jL ws 8=true then some (wd ws 11) else none)/\ir ws=if (tyN ws).isSome=true then 0 else 50):=hid ⟨rfl,by unfold ir;rw[if_pos z]⟩;unfold cpV at g d;simp only[kxm,Nat.reduceAdd] at g d;obtain⟨t,I⟩:=xq (wd ws 2);obtain⟨E,D⟩:=xq (wd ws 3);obtain⟨R,H⟩:=xq (wd ws 10);obtain⟨S,u⟩:=xq (wd ws 11);rw[I,D] at g;rw[H,u] at d;rw[D,u] at f;clear z U I D H u;cases L:jL ws 0<;>cases K:jL ws 8
 all_goals
  rw[L] at g;rw[K] at d;rw[L,K] at f;simp only[if_true,kzp,if_false] at g d f;clear L K;go_enter func149,ntmps149;go_wp2_with fail;refine (s.out _).mono ?_;rintro e T ⟨rfl,rfl⟩;go_wp2_with fail;refine (g.out _ (N.out.up i.out i.out.size)).mono ?_;rintro e P ⟨rfl,r⟩;have B:=hid (J.out.up r J.out.lt);have y:=hid (M.out.up r M.out.lt);have k:=i.out.trans (r.mono i.out.size);clear r;go_wp2_with fail;have G:=k.size;have j:=hid (k.alloc G (.cells #[.int .i64 0,.int .i64 0] 126));have b:=hid (k.alloc G (.cells #[.int .i64 (t:Int),.int .i64 (E:Int)] 126));have hl0:=B.out.lt;have hl1:=y.out.lt;clear k
  first
   | refine (d.out _ (N.out.up j.out j.out.size)).mono ?_
   | refine (d.out _ (N.out.up b.out b.out.size)).mono ?_
  rintro e w3 ⟨rfl,a⟩
  first
   | (
    have h:=j.out.trans (a.mono j.out.size);have m:=(B.out.alloc (.cells #[.int .i64 0,.int .i64 0] 126)).up a (by simp;omega);have l:=(y.out.alloc (.cells #[.int .i64 0,.int .i64 0] 126)).up a (by simp;omega);have C:=(Bx.new P 126 #[.int .i64 0,.int .i64 0]).up a (by simp))
   | (
    have h:=b.out.trans (a.mono b.out.size);have m:=(B.out.alloc (.cells #[.int .i64 (t:Int),.int .i64 (E:Int)] 126)).up a (by simp;omega);have l:=(y.out.alloc (.cells #[.int .i64 (t:Int),.int .i64 (E:Int)] 126)).up a (by simp;omega);have C:=(Bx.new P 126 #[.int .i64 (t:Int),.int .i64 (E:Int)]).up a (by simp))
  obtain⟨p0,p1,f0,f1,hg0⟩:=m.c2;obtain⟨q0,q1,g0,g1,hg1⟩:=l.c2;obtain⟨r0,r1,-,-,hg2⟩:=C.c2;have q:=hid m;have o:=hid l;have p:=hid h;clear h a m l C j b;go_wp2_with fail
 all_goals
  first
   | exact kqv (v:=.tuple #[.agg #[.int .i64 0,.int .i64 0],.agg #[.bool false,.bool false],.int .i64 50]) (co results149 _ (((((q.out.set_ 0 _).set_ 1 _).far (by simp) _).far (by simp) _).alloc _) (((((o.out.far (by simp) _).far (by simp) _).set_ 0 _).set_ 1 _).alloc _) rfl rfl rfl) rfl ⟨⟨0,false,false,by rw[f.out.2,f.out.1];rfl⟩,((((p.out.setCell (kqg _) _).setCell (kqg _) _).setCell (kxe _) _).setCell (kxe _) _).alloc (by simp;omega) _⟩
   | exact kqv (v:=.tuple #[.agg #[.int .i64 (R:Int),.int .i64 (S:Int)],.agg #[.bool false,.bool true],.int .i64 0]) (co results149 _ (((((q.out.set_ 0 _).set_ 1 _).far (by simp) _).far (by simp) _).alloc _) (((((o.out.far (by simp) _).far (by simp) _).set_ 0 _).set_ 1 _).alloc _) rfl rfl rfl) rfl ⟨⟨R,false,true,by rw[f.out.2,f.out.1];rfl⟩,((((p.out.setCell (kqg _) _).setCell (kqg _) _).setCell (kxe _) _).setCell (kxe _) _).alloc (by simp;omega) _⟩
   | exact kqv (v:=.tuple #[.agg #[.int .i64 (t:Int),.int .i64 (E:Int)],.agg #[.bool true,.bool false],.int .i64 0]) (co results149 _ (((((q.out.set_ 0 _).set_ 1 _).far (by simp) _).far (by simp) _).alloc _) (((((o.out.far (by simp) _).far (by simp) _).set_ 0 _).set_ 1 _).alloc _) rfl rfl rfl) rfl ⟨⟨t,true,false,by rw[f.out.2,f.out.1];rfl⟩,((((p.out.setCell (kqg _) _).setCell (kqg _) _).setCell (kxe _) _).setCell (kxe _) _).alloc (by simp;omega) _⟩
   | exact kqv (v:=.tuple #[.agg #[.int .i64 (t:Int),.int .i64 (E:Int)],.agg #[.bool true,.bool true],.int .i64 0]) (co results149 _ (((((q.out.set_ 0 _).set_ 1 _).far (by simp) _).far (by simp) _).alloc _) (((((o.out.far (by simp) _).far (by simp) _).set_ 0 _).set_ 1 _).alloc _) rfl rfl rfl) rfl ⟨⟨t,true,true,by rw[f.out.2,f.out.1];rfl⟩,((((p.out.setCell (kqg _) _).setCell (kqg _) _).setCell (kxe _) _).setCell (kxe _) _).alloc (by simp;omega) _⟩
end Go.Proofs.YtpcajamacpbjcaaGreat
