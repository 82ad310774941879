/- Texts laid together: R02S SupP SupR SupS SupT. -/
import Derived.Test.YtpcajamacpbjcaaGreatZKMove
import Derived.Test.YtpcajamacpbjcaaGreatZKImage
import Derived.Test.YtpcajamacpbjcaaGreatZKRef15
import Derived.Test.YtpcajamacpbjcaaGreatZKStg2
set_option maxHeartbeats 16000000
set_option maxRecDepth 100000
set_option linter.all false
namespace Go.Proofs.YtpcajamacpbjcaaGreat
open Lib (hid)
open Go.RowKit
variable {fn:Func}{l ws:List Nat}{a g:Nat}{p q:Tmp}{t:TypeId}{u v0 v1:Value}{W:World}
open Go.Proofs.Tryz
theorem xX(A B:Option Addr)(a b:List Nat)(n m c d H:Nat)(w:World)(hn:a.length=n)(hm:b.length=m)(h1:n<=1000000)(ha:RdW w H A a)(hb:RdW w H B b)(hH:H<=w.heap.size):
 Calls prog 79 #[.slice A n c,.slice B m d] w λe w'=>e=.returned (.bool (decide (a=b)))/\Below w.heap.size w w':=by
 subst hn hm;have U:=hid (ha.more hH);have P:=hid (hb.more hH);clear ha hb hH;by_cases j:a.length=b.length
 .have E:Hid (a.take a.length=b.take a.length->decide (a=b)=true):=hid λh=>oX j h;have v:Hid (∀k (h:k<a.length) (I:k<b.length),a[k]≠b[k]->decide (a=b)=false):=hid λk h I T=>rS h I T;obtain⟨q,L⟩:=xq (decide (a=b));rw[L] at E v |-;have z:((a.length:Int) != (b.length:Int))=false:=by rw[kqp];omega
  have u:(a.length != b.length)=false:=by rw[kqp];exact j
  have R:=hid j;clear L j;go_enter func79,ntmps79;go_wp2_with fail;go_loopw [5] (λi wr=>∃k:Nat,k<=a.length/\i=.int .i64 k/\Hid (a.take k=b.take k)/\Below w.heap.size w wr) (λi _=>a.length-(intOf i).toNat)
  case atStart=>exact⟨0,kqx _,rfl,rfl,kqk _ _⟩
  obtain⟨k,hk,rfl,F,t⟩:=hrel;by_cases g:k<a.length
  .have f:k<b.length:=by have:=R.out;omega
   obtain⟨K,M,rfl,hg1,S⟩:=RdW.at_ (Rd.below U.out t) g;obtain⟨J,G,rfl,hg2,O⟩:=RdW.at_ (Rd.below P.out t) f;have p:=hid (λh=>ns g f F.out h);have l:=hid (v.out k g f);obtain⟨x,C⟩:=xq (a[k]);obtain⟨y,D⟩:=xq (b[k]);rw[C] at S p l;rw[D] at O p l;have hk1:(k:Int)<(a.length:Int):=by omega
   have hk2:(k:Int)<(b.length:Int):=by omega
   have hk0:(0:Int)<=(k:Int):=by omega
   clear C D;have o:((x==y)=true/\((x:Int) != (y:Int))=false/\(x != y)=false)\/((x==y)=false/\((x:Int) != (y:Int))=true/\(x != y)=true):=by
    by_cases e:x=y
    .left;subst e;simp
    right;exact⟨by rw[kqi];exact e,by rw[kqt];omega,by rw[kqt];exact e⟩
   rcases o with⟨r,Q,N⟩|⟨r,Q,N⟩
   .have s:=hid (p.out (by rw[kqu] at r;exact r));go_wp2_with fail
    first
     | (go_region_held3 (λX:World=>X.cell? ⟨K,M+k,none⟩=some (.int .u64 (x:Int))/\X.cell? ⟨J,G+k,none⟩=some (.int .u64 (y:Int))) (go_keep) (fail))
     | fail
    go_wp2;go_roundw
    case rel=>exact⟨k+1,by omega,by go_num,s.out,t.drew⟩
    case measure=>simp[intOf];omega
   have s:=hid (l.out (by intro h;rw[h] at r;simp at r));go_wp2_with fail
   first
    | (go_region_held3 (λX:World=>X.cell? ⟨K,M+k,none⟩=some (.int .u64 (x:Int))/\X.cell? ⟨J,G+k,none⟩=some (.int .u64 (y:Int))) (go_keep) (fail))
    | fail
   go_wp2;go_ret;exact⟨by rw[s.out];rfl,t.drew⟩
  have s:=hid (E.out (by have:=F.out;rwa [show k=a.length by omega] at this));go_wp2;go_ret;exact⟨by rw[s.out];rfl,t⟩
 have v:=hid (pH j);have z:((a.length:Int) != (b.length:Int))=true:=by rw[kqt];omega
 have u:(a.length != b.length)=true:=by rw[kqt];exact j
 clear j;go_enter func79,ntmps79;go_wp2;go_ret;exact⟨by rw[v.out];rfl,kqk _ _⟩
def sp7 (n t:Nat):List Nat:=[32777959566500194,1,n,t,0,0,0]
def spL (n t:Nat):List Nat:=sp7 n t++[bt 14695981039346656037 (sp7 n t)]
theorem zL(n t:Nat):(spL n t).length=8:=rfl
def oY (l:List Nat):Bool:=ak ((wd l 2:Nat):Int)&&(decide (wd l 3<=8)&&decide (spL (wd l 2) (wd l 3)=l))
def j8 (l:List Nat):Int:=if oY l=true then 0 else 50
def spV (l:List Nat):Value:=if oY l=true then .agg #[.int .i64 ((wd l 2:Nat):Int),.int .i64 ((wd l 3:Nat):Int)] else .agg #[.int .i64 0,.int .i64 0]
def sp8 (ws:List Nat) (a:Nat):List Nat:=(ws.drop a).take 8
theorem mM{i:Nat}(h:i<8):wd (sp8 ws a) i=wd ws (a+i):=by unfold sp8 wd;rw[List.getElem?_take,if_pos h,kjw]
def kT (ws:List Nat) (a:Nat):Bool:=oY (sp8 ws a)&&wd ws (a+2)==ws.length
def tyN (ws:List Nat):Option Nat:=if kT ws 0=true then some (wd ws 3) else if kT ws 8=true then some (wd ws 11) else none
theorem kz(l:List Nat):oY l=true↔ak ((wd l 2:Nat):Int)=true/\wd l 3<=8/\spL (wd l 2) (wd l 3)=l:=by unfold oY;simp
theorem uc{t:Nat}(h:tyN ws=some t):t<=8:=by
 unfold tyN at h;split at h
 .rename_i h1;simp only[Option.some.injEq] at h;unfold kT at h1;rw[kqw] at h1;have:=((kz _).1 h1.1).2.1;rw[mM (by omega)] at this;simp at this;omega
 split at h
 .rename_i h1;simp only[Option.some.injEq] at h;unfold kT at h1;rw[kqw] at h1;have:=((kz _).1 h1.1).2.1;rw[mM (by omega)] at this;simp at this;omega
 cases h
def jj (n t:Nat):Int:=if ak (n:Int)=true then (if t<=8 then 0 else 8) else 8
theorem um(n t:Nat)(w:World)(hn:n<=1000000)(ht:t<=1000000):
 Calls prog 286 #[.agg #[.int .i64 (n:Int),.int .i64 (t:Int)]] w λe w'=>e=.returned (.int .i64 (jj n t))/\Below w.heap.size w w':=by
 have d:=hid ((kqk w.heap.size w).alloc (kqb _) (.cells #[.int .i64 (n:Int),.int .i64 (t:Int)] 126));have b:=hid (λW=>qm n W (by omega));have d1:decide ((t:Int)<0)=false:=by rw[kqc];omega
 cases a:ak (n:Int)
 .have c:=hid (show jj n t=8 by simp[jj,a]);rw[a] at b;clear a;go_enter func286,ntmps286;go_wp2_with fail;refine (b.out _).mono ?_;rintro e h ⟨rfl,rfl⟩;go_wp2;go_ret;exact⟨by rw[c.out];rfl,d.out⟩
 rw[a] at b;by_cases g:t<=8
 .have c:=hid (show jj n t=0 by simp[jj,a,g]);have i:decide ((8:Int)<(t:Int))=false:=by rw[kqc];omega
  have f:decide (8<t)=false:=by rw[kqc];omega
  clear a;go_enter func286,ntmps286;go_wp2_with fail;refine (b.out _).mono ?_;rintro e h ⟨rfl,rfl⟩;go_wp2;go_ret;exact⟨by rw[c.out];rfl,d.out⟩
 have c:=hid (show jj n t=8 by simp[jj,a,g]);have i:decide ((8:Int)<(t:Int))=true:=by rw[kql];omega
 have f:decide (8<t)=true:=by rw[kql];omega
 clear a;go_enter func286,ntmps286;go_wp2_with fail;refine (b.out _).mono ?_;rintro e h ⟨rfl,rfl⟩;go_wp2;go_ret;exact⟨by rw[c.out];rfl,d.out⟩
theorem yO:(prog.info? 53).map (λi=>(i.zero,i.size,i.bytes))=some (some (.int .u64 0),1,8):=by kernel_rfl
theorem qa(n t:Nat)(w:World)(hn:n<=1000000)(ht:t<=1000000):
 Calls prog 109 #[.agg #[.int .i64 (n:Int),.int .i64 (t:Int)]] w λe w'=>(∃A c,e=.returned (.slice A 8 c)/\w'.ownsRow w.heap.size 53 1 (.slice A 8 c) 8 ((spL n t).flatMap au))/\Below w.heap.size w w':=by
 have z:=hid (λA W (H:RdW W W.heap.size A (sp7 n t))=>oO A (sp7 n t) 7 7 W rfl (by omega) H (λx F=>by
  simp only[sp7,kq0,kzs,or_false] at F;omega))
 have B:=hid (show (spL n t).flatMap au=[.int .u64 32777959566500194,.int .u64 1,.int .u64 (n:Int),.int .u64 (t:Int),.int .u64 0,.int .u64 0,.int .u64 0]++[.int .u64 ((bt 14695981039346656037 (sp7 n t):Nat):Int)] by
  unfold spL;rw[b9];rfl)
 obtain⟨q,D⟩:=xq (bt 14695981039346656037 (sp7 n t));rw[D] at z B;have s:=hid ((kqk w.heap.size w).alloc (kqb _) (.cells #[.int .i64 (n:Int),.int .i64 (t:Int)] 126));have w1:IntKind.u64.wrap (n:Int)=(n:Int):=kzi _ (by omega);have w2:IntKind.u64.wrap (t:Int)=(t:Int):=kzi _ (by omega);clear D;obtain⟨E,C,j,m,k⟩:=kze yO;have I:=hid C;have v:=hid j;have y:=hid m;have r:=hid k;clear C j m k;go_enter func109,ntmps109;go_wp2_with fail;obtain⟨o,g⟩:∃o,w.alloc (.cells #[.int .i64 (n:Int),.int .i64 (t:Int)] 126)=o:=⟨_,rfl⟩;have l:o.heap.size=w.heap.size+1:=by rw[<-g,kqn]
 rw[g] at s |-;have i:=s.out.size;have a:=bh (n:=7) (sz:=1) o 53 #[.int .u64 32777959566500194,.int .u64 1,.int .u64 (n:Int),.int .u64 (t:Int),.int .u64 0,.int .u64 0,.int .u64 0] i rfl (by unfold maxLen;omega);rw[l] at a;clear l;refine (z.out _ _ (show Rd _ _ _ _ from Rd.of_own a)).mono ?_;rintro e w5 ⟨rfl,f⟩;have d:=ae a f (kqb _);have h:=hid ((s.out.alloc i (.cells #[.int .u64 32777959566500194,.int .u64 1,.int .u64 (n:Int),.int .u64 (t:Int),.int .u64 0,.int .u64 0,.int .u64 0] 53)).trans (f.mono (by simp;omega)));clear g a f;go_wp2_with (at_builtin;refine kq9 _ rfl _ _ 22 rfl w.heap.size 53 E _ 1 8 underlying22 I.out v.out y.out r.out rfl (by decide) _ _ _ rfl (d.alloc _) ⟨_,0,none⟩ 1 1 [.int .u64 (q:Int)] rfl rfl (bn _ _ _) (by simp[Value.oneCell']) (by unfold maxLen;omega) (by omega) (aH h.out.size) ?_;intro v1 w6 b p _;have u:=am h.out h.out.size d p);obtain⟨J,G,rfl⟩:=ap b;go_ret;exact⟨⟨J,G,rfl,by rw[B.out];exact b⟩,u⟩
theorem cA(h:fn.results=#[.cell p 126,.tmp q])(tmps:Array Value)(hb:Bx W g t #[v0,v1])(hp:tmps.getD p undef=.pointer (some ⟨g,0,none⟩))(hq:tmps.getD q undef=u):
 (results fn tmps).run prog W=.ok (.tuple #[.agg #[v0,v1],u]) W:=by obtain⟨a,b,-⟩:=hb.c2;rw[kxl] at hp hq;simp[results,h,hp,hq,go_sem,a,b]
theorem nc(h:oY l=false):spV l=.agg #[.int .i64 0,.int .i64 0]/\j8 l=50:=by simp[spV,j8,h]
theorem ml(h:oY l=true):spV l=.agg #[.int .i64 ((wd l 2:Nat):Int),.int .i64 ((wd l 3:Nat):Int)]/\j8 l=0:=by simp[spV,j8,h]
theorem sN(h:¬ (ak ((wd l 2:Nat):Int)=true/\wd l 3<=8)):oY l=false:=by
 cases a:oY l with
 | false=>rfl
 | true=>exact absurd ⟨((kz l).1 a).1,((kz l).1 a).2.1⟩ h
theorem zC(A:Option Addr)(l:List Nat)(c:Nat)(w:World)(hn:l.length=8)(hr:RdW w w.heap.size A l):
 Calls prog 260 #[.slice A 8 c] w λe w'=>e=.returned (.tuple #[spV l,.int .i64 (j8 l)])/\Below w.heap.size w w':=by
 obtain⟨b,m,rfl,hb,c2⟩:=RdW.at_ hr (show 2<l.length by omega);obtain⟨b',off',e',-,c3⟩:=RdW.at_ hr (show 3<l.length by omega);cases e';rw[<-bI] at c2 c3;have P:=hid (λh=>af ((wd l 2:Nat):Int) |>.1 h);have g:=hid (λh=>sN (l:=l) h);have p:=hid (λh=>nc (l:=l) h);have t:=hid (λh=>ml (l:=l) h);have z:Hid (ak ((wd l 2:Nat):Int)=true->wd l 3<=8->oY l=decide (spL (wd l 2) (wd l 3)=l)):=hid λh1 h2=>by
  unfold oY;rw[h1,decide_eq_true h2];rfl
 have HR:=hid hr;have x0:=Bx.new w 126 #[.int .i64 0,.int .i64 0];have T:=hid x0;have D:=hid ((kqk w.heap.size w).alloc (kqb _) (.cells #[.int .i64 0,.int .i64 0] 126));have K:=(kq8 w (.cells #[.int .i64 0,.int .i64 0] 126) ⟨b,m+2,none⟩ hb).trans c2;have I:=(kq8 w (.cells #[.int .i64 0,.int .i64 0] 126) ⟨b,m+3,none⟩ hb).trans c3;have HL:=hid hn;obtain⟨x,hx⟩:=xq (wd l 2);obtain⟨y,hy⟩:=xq (wd l 3);rw[hx] at P g t z K;rw[hy] at g t z I;clear hx hy c2 c3 hr hn x0;by_cases M:1000000<x
 .have a:=hid (p.out (g.out λh=>by have:=P.out h.1;omega));have d1:decide ((1000000:Int)<(x:Int))=true:=by rw[kql];omega
  have d1n:decide (1000000<x)=true:=by rw[kql];omega
  go_enter func260,ntmps260;go_wp2_with fail;exact kqr (v:=.tuple #[.agg #[.int .i64 0,.int .i64 0],.int .i64 50]) (cA results260 _ T.out rfl rfl) rfl ⟨by rw[a.out.1,a.out.2],D.out⟩
 have d1:decide ((1000000:Int)<(x:Int))=false:=by rw[kqc];omega
 have d1n:decide (1000000<x)=false:=by rw[kqc];omega
 by_cases Fr:1000000<y
 .have a:=hid (p.out (g.out λh=>by have:=h.2;omega));have d2:decide ((1000000:Int)<(y:Int))=true:=by rw[kql];omega
  have d2n:decide (1000000<y)=true:=by rw[kql];omega
  clear M;go_enter func260,ntmps260;go_wp2_with fail;exact kqr (v:=.tuple #[.agg #[.int .i64 0,.int .i64 0],.int .i64 50]) (cA results260 _ T.out rfl rfl) rfl ⟨by rw[a.out.1,a.out.2],D.out⟩
 have d2:decide ((1000000:Int)<(y:Int))=false:=by rw[kqc];omega
 have d2n:decide (1000000<y)=false:=by rw[kqc];omega
 have HC:=hid (λW=>um x y W (by omega) (by omega));have HW:=hid (λW=>qa x y W (by omega) (by omega));have w1:IntKind.i64.wrap (x:Int)=(x:Int):=kqo _ (by omega);have w2:IntKind.i64.wrap (y:Int)=(y:Int):=kqo _ (by omega);have Fp:=hid (zL x y);clear M Fr;go_enter func260,ntmps260;go_wp2_with fail
 go_region_held3 (λX:World=>X.cell? ⟨b,m+2,none⟩=some (.int .u64 (x:Int))/\X.cell? ⟨b,m+3,none⟩=some (.int .u64 (y:Int))) (go_keep) (fail)
 go_wp2_with fail;obtain⟨F,j⟩:∃F,((w.alloc (.cells #[.int .i64 0,.int .i64 0] 126)).alloc (.cells #[.int .i64 (x:Int),.int .i64 (y:Int)] 126)).drew=F:=⟨_,rfl⟩;have X1:=hid (show Bx F w.heap.size 126 #[.int .i64 0,.int .i64 0] by rw[<-j];exact T.out.alloc _);have U:Bx F (w.heap.size+1) 126 #[.int .i64 (x:Int),.int .i64 (y:Int)]:=by rw[<-j];have:=Bx.new (w.alloc (.cells #[.int .i64 0,.int .i64 0] 126)) 126 #[.int .i64 (x:Int),.int .i64 (y:Int)];rw[kqn] at this;exact this
 have r:Below w.heap.size w F:=by rw[<-j];exact (D.out.alloc (by simp) _).drew
 have Fo:=hid (HR.out.up r r.size);have hz5:w.heap.size+1<F.heap.size:=U.lt;have L:=hid r;rw[j];have hH:=‹_/\_›;clear hH j r K I T;refine (HC.out _).mono ?_;rintro e w6 ⟨rfl,d⟩;have o:=hid (X1.out.up d X1.out.lt);have B:=U.up d U.lt;obtain⟨q0,q1,-,-,Z⟩:=B.c2;have Q:=hid B;have C:=hid (L.out.trans (d.mono L.out.size));have Fq:=hid (Fo.out.up d d.size);clear U B d HC;by_cases n:jj x y=0
 .have E:ak (x:Int)=true/\y<=8:=by
   unfold jj at n;split at n
   .split at n
    .exact ⟨by assumption,by assumption⟩
    exact absurd n (by decide)
   exact absurd n (by decide)
  have s:=hid (z.out E.1 E.2);rw[n];clear n E;go_wp2_with fail;refine (HW.out _).mono ?_;rintro e R ⟨⟨A7,c7,rfl,i⟩,f⟩;have Y:=hid (Fq.out.up f f.size);have G:=hid (o.out.up f o.out.lt);have O:=hid (Q.out.up f Q.out.lt);have J:=hid (C.out.trans (f.mono C.out.size));have Eq:=hid (show RdW R R.heap.size A7 (spL x y) from Rd.of_own i);clear i f q0 q1 Z;go_wp2_with fail;refine (xX A7 (some ⟨b,m,none⟩) (spL x y) l 8 8 c7 c R.heap.size R Fp.out HL.out (by omega) Eq.out Y.out (kqb _)).mono ?_;rintro e w8 ⟨rfl,k⟩;have q:=G.out.up k G.out.lt;have H:=hid q;have u:=O.out.up k O.out.lt;obtain⟨q0,q1,-,-,hg8⟩:=u.c2;obtain⟨r0,r1,f0,f1,V⟩:=q.c2;have N:=hid (J.out.trans (k.mono J.out.size));cases S:decide (spL x y=l)
  .rw[S] at s;have a:=hid (p.out s.out);clear S q u k;go_wp2_with fail;exact kqr (v:=.tuple #[.agg #[.int .i64 0,.int .i64 0],.int .i64 50]) (cA results260 _ ((H.out.set_ 0 _).set_ 1 _) rfl rfl) rfl ⟨by rw[a.out.1,a.out.2],(N.out.setCell (by simp) _).setCell (by simp) _⟩
  rw[S] at s;have a:=hid (t.out s.out);clear S q u k;go_wp2_with fail;exact kqr (v:=.tuple #[.agg #[.int .i64 (x:Int),.int .i64 (y:Int)],.int .i64 0]) (cA results260 _ ((H.out.set_ 0 _).set_ 1 _) rfl rfl) rfl ⟨by rw[a.out.1,a.out.2],(N.out.setCell (by simp) _).setCell (by simp) _⟩
 have a:=hid (p.out (g.out λh=>n (by unfold jj;rw[if_pos h.1,if_pos h.2])));have hne:(jj x y != 0)=true:=by rw[kqt];exact n
 obtain⟨r0,r1,f0,f1,V⟩:=o.out.c2;clear n;go_wp2_with fail;exact kqr (v:=.tuple #[.agg #[.int .i64 0,.int .i64 0],.int .i64 50]) (cA results260 _ ((o.out.set_ 0 _).set_ 1 _) rfl rfl) rfl ⟨by rw[a.out.1,a.out.2],(C.out.setCell (by simp) _).setCell (by simp) _⟩
def cpV (ws:List Nat) (a:Nat):Value:=if kT ws a=true then .agg #[.int .i64 ((wd ws (a+2):Nat):Int),.int .i64 ((wd ws (a+3):Nat):Int)] else .agg #[.int .i64 0,.int .i64 0]
theorem sA(h:a+8<=ws.length):(sp8 ws a).length=8:=by unfold sp8;rw[kzd,kxf];omega
theorem yF{w:World}{B:Nat}{A:Option Addr}(h:RdW w B A ws)(a:Nat):RdW w B (A.map (·.add a)) (sp8 ws a):=by unfold RdW sp8 at *;rw[vt _ bZ,uu _ bZ];exact (Rd.drop_ h a).take_ 8
theorem qS(A:Option Addr)(ws:List Nat)(c n k:Nat)(w:World)(hn:ws.length=n)(hm:n<=2048)(h256:256<=n)(hk:k<=1)(hc:n<=c)(F:RdW w w.heap.size A ws):
 Calls prog 210 #[.slice A n c,.int .i64 (k:Int)] w λe w'=>e=.returned (.tuple #[cpV ws (8*k),.bool (kT ws (8*k))])/\Below w.heap.size w w':=by
 subst hn;obtain⟨b,z,rfl,hb,-⟩:=RdW.at_ F (show 0<ws.length by omega);have M:=sA (ws:=ws) (a:=8*k) (by omega);have I:=λW (F:RdW W W.heap.size (some ⟨b,z,none⟩) ws)=>yF F (8*k);have o:=hid (λW (F:RdW W W.heap.size (some ⟨b,z,none⟩) ws)=>(zC (some ⟨b,z+8*k,none⟩) (sp8 ws (8*k)) (c-8*k) W M (by
  have:=I W F;simp only[kzp] at this;have e:(⟨b,z,none⟩:Addr).add (8*k)=⟨b,z+8*k,none⟩:=by unfold Addr.add;split<;>simp_all
  rw[e] at this;exact this)))
 have P:=hid F;have R:=Bx.new w 126 #[.int .i64 0,.int .i64 0];have G:=hid R;have d:=hid ((kqk w.heap.size w).alloc (kqb _) (.cells #[.int .i64 0,.int .i64 0] 126));have O:wd (sp8 ws (8*k)) 2=wd ws (8*k+2):=mM (by omega);have N:wd (sp8 ws (8*k)) 3=wd ws (8*k+3):=mM (by omega);have C:kT ws (8*k)=(oY (sp8 ws (8*k))&&wd ws (8*k+2)==ws.length):=rfl;have k1:IntKind.i64.wrap ((8:Int)*(k:Int))=((8*k:Nat):Int):=by rw[kqo _ (by omega)];omega
 have k2:IntKind.i64.wrap (((8*k:Nat):Int)+8)=((8*k+8:Nat):Int):=by rw[kqo _ (by omega)];omega
 have k3:8*k+8<=c:=by omega
 have k4:8*k<=8*k+8:=by omega
 obtain⟨j,hj⟩:=xq (8*k);rw[hj] at o k1 k2 k3 k4 C O N |-;obtain⟨l,Z⟩:=xq (sp8 ws j);rw[Z] at o C O N;clear F R M I Z;have m:∀r:Bool,kT ws j=r->Hid (cpV ws j=if r=true then .agg #[.int .i64 ((wd ws (j+2):Nat):Int),.int .i64 ((wd ws (j+3):Nat):Int)] else .agg #[.int .i64 0,.int .i64 0]):=λr h=>hid (by unfold cpV;rw[h]);have B:=hid (λh=>nc (l:=l) h);have g:=hid (λh=>ml (l:=l) h);rw[O,N] at g;have m:=hid m;have p:=hid C;obtain⟨x,S⟩:=xq (wd ws (j+2));obtain⟨y,T⟩:=xq (wd ws (j+3));rw[S] at p m g;rw[T] at m g;clear S T O N C;cases D:oY l
 .have E:=B.out D;have f:kT ws j=false:=by rw[p.out,D];rfl
  have L:=m.out _ f;have t:=hid f;rw[E.1,E.2] at o;clear D E f B g p m;go_enter func210,ntmps210;go_wp2_with fail;refine (o.out _ (P.out.up d.out d.out.size)).mono ?_;rintro e K ⟨rfl,i⟩;have q:=G.out.up i G.out.lt;obtain⟨Y,V,U,f1,X⟩:=q.c2;have J:=hid q;have u:=hid (d.out.trans (i.mono d.out.size));have H:w.heap.size<K.heap.size:=q.lt;clear q i;go_wp2_with fail;exact kqr (v:=.tuple #[.agg #[.int .i64 0,.int .i64 0],.bool false]) (cA results210 _ (((J.out.set_ 0 _).set_ 1 _).alloc _) rfl rfl) rfl ⟨by rw[L.out,t.out];rfl,((u.out.setCell (kqb _) _).setCell (kqb _) _).alloc (by simp;omega) _⟩
 have E:=g.out D;rw[E.1,E.2] at o;by_cases s:x=ws.length
 .have f:kT ws j=true:=by rw[p.out,D,s];simp
  have L:=m.out _ f;have t:=hid f;have d1:((x:Int) != (ws.length:Int))=false:=by rw[kqp];omega
  have Q:(x != ws.length)=false:=by rw[kqp];exact s
  clear D E f B g p m s;go_enter func210,ntmps210;go_wp2_with fail;refine (o.out _ (P.out.up d.out d.out.size)).mono ?_;rintro e K ⟨rfl,i⟩;have q:=G.out.up i G.out.lt;obtain⟨Y,V,U,f1,X⟩:=q.c2;have J:=hid q;have u:=hid (d.out.trans (i.mono d.out.size));have H:w.heap.size<K.heap.size:=q.lt;clear q i;go_wp2_with fail;exact kqr (v:=.tuple #[.agg #[.int .i64 (x:Int),.int .i64 (y:Int)],.bool true]) (cA results210 _ (((J.out.set_ 0 _).set_ 1 _).alloc _) rfl rfl) rfl ⟨by rw[L.out,t.out];rfl,((u.out.setCell (kqb _) _).setCell (kqb _) _).alloc (by simp;omega) _⟩
 have f:kT ws j=false:=by rw[p.out,D];simp[s]
 have L:=m.out _ f;have t:=hid f;have d1:((x:Int) != (ws.length:Int))=true:=by rw[kqt];omega
 have Q:(x != ws.length)=true:=by rw[kqt];exact s
 clear D E f B g p m s;go_enter func210,ntmps210;go_wp2_with fail;refine (o.out _ (P.out.up d.out d.out.size)).mono ?_;rintro e K ⟨rfl,i⟩;have q:=G.out.up i G.out.lt;obtain⟨Y,V,U,f1,X⟩:=q.c2;have J:=hid q;have u:=hid (d.out.trans (i.mono d.out.size));have H:w.heap.size<K.heap.size:=q.lt;clear q i;go_wp2_with fail;exact kqr (v:=.tuple #[.agg #[.int .i64 0,.int .i64 0],.bool false]) (cA results210 _ (((J.out.set_ 0 _).set_ 1 _).alloc _) rfl rfl) rfl ⟨by rw[L.out,t.out];rfl,((u.out.setCell (kqb _) _).setCell (kqb _) _).alloc (by simp;omega) _⟩
def jk (ws:List Nat):Int:=if ak (ws.length:Int)=true then (if (tyN ws).isSome=true then 0 else 50) else 8
def yj (ws:List Nat) (e:Ending):Prop:=∃(a:Int) (b0 b1:Bool),e=.returned (.tuple #[.agg #[.int .i64 a,.int .i64 (((tyN ws).getD 0:Nat):Int)],.agg #[.bool b0,.bool b1],.int .i64 (jk ws)])
theorem cO{r:Tmp}(h:fn.results=#[.cell p 126,.cell q 127,.tmp r])(tmps:Array Value){g':Nat}{t':TypeId}{u0 u1:Value}(hb:Bx W g t #[v0,v1])(hb':Bx W g' t' #[u0,u1])(hp:tmps.getD p undef=.pointer (some ⟨g,0,none⟩))(hp':tmps.getD q undef=.pointer (some ⟨g',0,none⟩))(hq:tmps.getD r undef=u):
 (results fn tmps).run prog W=.ok (.tuple #[.agg #[v0,v1],.agg #[u0,u1],u]) W:=by obtain⟨a,c,-⟩:=hb.c2;obtain⟨d,b,-⟩:=hb'.c2;rw[kxl] at hp hp' hq;simp[results,h,hp,hp',hq,go_sem,a,c,d,b]
theorem rF(h:ak (ws.length:Int)=false):tyN ws=none/\jk ws=8:=by
 have b:∀a,kT ws a=false:=λa=>by
  cases c:kT ws a with
  | false=>rfl
  | true =>unfold kT at c;simp only[kqw,kqu] at c;have d:=((kz _).1 c.1).1;rw[mM (by omega),c.2,h] at d;cases d
 exact⟨by unfold tyN;rw[b,b];rfl,by unfold jk;rw[h];rfl⟩
theorem zK :jk ws=0↔ak (ws.length:Int)=true/\(tyN ws).isSome=true:=by
 unfold jk;split
 .split<;>simp_all
 simp_all
theorem qw(A:Option Addr)(ws:List Nat)(c n:Nat)(w:World)(hn:ws.length=n)(hm:n<=9223372036854775807)(hc:n<=c)(F:RdW w w.heap.size A ws):
 Calls prog 149 #[.slice A n c] w λe w'=>yj ws e/\Below w.heap.size w w':=by
 subst hn;have K:=hid F;have p:=hid (λW=>fv A ws.length c W hm);have h:=hid (((kqk w.heap.size w).alloc (kqb _) (.cells #[.int .i64 0,.int .i64 0] 126)).alloc (by simp) (.cells #[.bool false,.bool false] 127));have P:=(Bx.new w 126 #[.int .i64 0,.int .i64 0]).alloc (.cells #[.bool false,.bool false] 127);have M:=Bx.new (w.alloc (.cells #[.int .i64 0,.int .i64 0] 126)) 127 #[.bool false,.bool false];rw[kqn] at M;have J:=hid P;have L:=hid M;clear P M F;cases y:ak (ws.length:Int)
 .have f:=hid (rF y);rw[bJ y] at p;clear y;go_enter func149,ntmps149;go_wp2_with fail;refine (p.out _).mono ?_;rintro e U ⟨rfl,rfl⟩;go_wp2_with fail;exact kqr (v:=.tuple #[.agg #[.int .i64 0,.int .i64 0],.agg #[.bool false,.bool false],.int .i64 8]) (cO results149 _ J.out L.out rfl rfl rfl) rfl ⟨⟨0,false,false,by rw[f.out.1,f.out.2];rfl⟩,h.out⟩
 have S:=(af _).1 y;rw[aW y] at p;have g:=hid (λW (F:RdW W W.heap.size A ws)=>(show Calls prog 210 #[.slice A ws.length c,.int .i64 0] W λe w'=>e=.returned (.tuple #[cpV ws 0,.bool (kT ws 0)])/\Below W.heap.size W w' from qS A ws c ws.length 0 W rfl (by omega) (by omega) (by omega) hc F));have d:=hid (λW (F:RdW W W.heap.size A ws)=>(show Calls prog 210 #[.slice A ws.length c,.int .i64 1] W λe w'=>e=.returned (.tuple #[cpV ws 8,.bool (kT ws 8)])/\Below W.heap.size W w' from qS A ws c ws.length 1 W rfl (by omega) (by omega) (by omega) hc F));have f:Hid (tyN ws=(if kT ws 0=true then some (wd ws 3) else if kT ws 8=true then some (wd ws 11) else none)/\jk ws=if (tyN ws).isSome=true then 0 else 50):=hid ⟨rfl,by unfold jk;rw[if_pos y]⟩;unfold cpV at g d;simp only[kx5,Nat.reduceAdd] at g d;obtain⟨t,H⟩:=xq (wd ws 2);obtain⟨E,u⟩:=xq (wd ws 3);obtain⟨Q,I⟩:=xq (wd ws 10);obtain⟨T,D⟩:=xq (wd ws 11);rw[H,u] at g;rw[I,D] at d;rw[u,D] at f;clear y S H u I D;cases O:kT ws 0<;>cases N:kT ws 8
 all_goals
  rw[O] at g;rw[N] at d;rw[O,N] at f;simp only[if_true,kzn,if_false] at g d f;clear O N;go_enter func149,ntmps149;go_wp2_with fail;refine (p.out _).mono ?_;rintro e U ⟨rfl,rfl⟩;go_wp2_with fail;refine (g.out _ (K.out.up h.out h.out.size)).mono ?_;rintro e R ⟨rfl,m⟩;have z:=hid (J.out.up m J.out.lt);have B:=hid (L.out.up m L.out.lt);have o:=h.out.trans (m.mono h.out.size);clear m;go_wp2_with fail;have G:=o.size;have i:=hid (o.alloc G (.cells #[.int .i64 0,.int .i64 0] 126));have b:=hid (o.alloc G (.cells #[.int .i64 (t:Int),.int .i64 (E:Int)] 126));have hl0:=z.out.lt;have hl1:=B.out.lt;clear o
  first
   | refine (d.out _ (K.out.up i.out i.out.size)).mono ?_
   | refine (d.out _ (K.out.up b.out b.out.size)).mono ?_
  rintro e w3 ⟨rfl,a⟩
  first
   | (
    have j:=i.out.trans (a.mono i.out.size);have s:=(z.out.alloc (.cells #[.int .i64 0,.int .i64 0] 126)).up a (by simp;omega);have k:=(B.out.alloc (.cells #[.int .i64 0,.int .i64 0] 126)).up a (by simp;omega);have C:=(Bx.new R 126 #[.int .i64 0,.int .i64 0]).up a (by simp))
   | (
    have j:=b.out.trans (a.mono b.out.size);have s:=(z.out.alloc (.cells #[.int .i64 (t:Int),.int .i64 (E:Int)] 126)).up a (by simp;omega);have k:=(B.out.alloc (.cells #[.int .i64 (t:Int),.int .i64 (E:Int)] 126)).up a (by simp;omega);have C:=(Bx.new R 126 #[.int .i64 (t:Int),.int .i64 (E:Int)]).up a (by simp))
  obtain⟨p0,p1,f0,f1,hg0⟩:=s.c2;obtain⟨q0,q1,g0,g1,hg1⟩:=k.c2;obtain⟨r0,r1,-,-,hg2⟩:=C.c2;have r:=hid s;have q:=hid k;have l:=hid j;clear j a s k C i b;go_wp2_with fail
 all_goals
  first
   | exact kqr (v:=.tuple #[.agg #[.int .i64 0,.int .i64 0],.agg #[.bool false,.bool false],.int .i64 50]) (cO results149 _ (((((r.out.set_ 0 _).set_ 1 _).far (by simp) _).far (by simp) _).alloc _) (((((q.out.far (by simp) _).far (by simp) _).set_ 0 _).set_ 1 _).alloc _) rfl rfl rfl) rfl ⟨⟨0,false,false,by rw[f.out.2,f.out.1];rfl⟩,((((l.out.setCell (kqb _) _).setCell (kqb _) _).setCell (kzx _) _).setCell (kzx _) _).alloc (by simp;omega) _⟩
   | exact kqr (v:=.tuple #[.agg #[.int .i64 (Q:Int),.int .i64 (T:Int)],.agg #[.bool false,.bool true],.int .i64 0]) (cO results149 _ (((((r.out.set_ 0 _).set_ 1 _).far (by simp) _).far (by simp) _).alloc _) (((((q.out.far (by simp) _).far (by simp) _).set_ 0 _).set_ 1 _).alloc _) rfl rfl rfl) rfl ⟨⟨Q,false,true,by rw[f.out.2,f.out.1];rfl⟩,((((l.out.setCell (kqb _) _).setCell (kqb _) _).setCell (kzx _) _).setCell (kzx _) _).alloc (by simp;omega) _⟩
   | exact kqr (v:=.tuple #[.agg #[.int .i64 (t:Int),.int .i64 (E:Int)],.agg #[.bool true,.bool false],.int .i64 0]) (cO results149 _ (((((r.out.set_ 0 _).set_ 1 _).far (by simp) _).far (by simp) _).alloc _) (((((q.out.far (by simp) _).far (by simp) _).set_ 0 _).set_ 1 _).alloc _) rfl rfl rfl) rfl ⟨⟨t,true,false,by rw[f.out.2,f.out.1];rfl⟩,((((l.out.setCell (kqb _) _).setCell (kqb _) _).setCell (kzx _) _).setCell (kzx _) _).alloc (by simp;omega) _⟩
   | exact kqr (v:=.tuple #[.agg #[.int .i64 (t:Int),.int .i64 (E:Int)],.agg #[.bool true,.bool true],.int .i64 0]) (cO results149 _ (((((r.out.set_ 0 _).set_ 1 _).far (by simp) _).far (by simp) _).alloc _) (((((q.out.far (by simp) _).far (by simp) _).set_ 0 _).set_ 1 _).alloc _) rfl rfl rfl) rfl ⟨⟨t,true,true,by rw[f.out.2,f.out.1];rfl⟩,((((l.out.setCell (kqb _) _).setCell (kqb _) _).setCell (kzx _) _).setCell (kzx _) _).alloc (by simp;omega) _⟩
end Go.Proofs.YtpcajamacpbjcaaGreat
