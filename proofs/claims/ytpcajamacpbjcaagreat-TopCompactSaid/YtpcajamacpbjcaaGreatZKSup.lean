/- Texts laid together: R02S SupP SupR SupS SupT. -/
import Derived.Test.YtpcajamacpbjcaaGreatZKMove
import Derived.Test.YtpcajamacpbjcaaGreatZKImage
import Derived.Test.YtpcajamacpbjcaaGreatZKRef15
import Derived.Test.YtpcajamacpbjcaaGreatZKStg2
set_option maxHeartbeats 16000000
set_option maxRecDepth 100000
set_option linter.all false
namespace Go.Proofs.YtpcajamacpbjcaaGreat
open Lib (hid)
open Go.RowKit
variable {fn:Func}{l ws:List Nat}{a g:Nat}{p q:Tmp}{t:TypeId}{u v0 v1:Value}{W:World}
open Go.Proofs.Tryz
theorem C4(A B:Option Addr)(a b:List Nat)(n m c d H:Nat)(w:World)(hn:a.length=n)(hm:b.length=m)(h1:n<=1000000)(ha:RdW w H A a)(hb:RdW w H B b)(hH:H<=w.heap.size):
 Calls prog 79 #[.slice A n c,.slice B m d] w λe w'=>e=.returned (.bool (decide (a=b)))/\Below w.heap.size w w':=by
 subst hn hm;have S:=hid (ha.more hH);have P:=hid (hb.more hH);clear ha hb hH;by_cases g:a.length=b.length
 .have E:Hid (a.take a.length=b.take a.length->decide (a=b)=true):=hid λh=>rF g h;have v:Hid (∀k (h:k<a.length) (J:k<b.length),a[k]≠b[k]->decide (a=b)=false):=hid λk h J N=>t5 h J N;obtain⟨q,K⟩:=xq (decide (a=b));rw[K] at E v |-;have z:((a.length:Int) != (b.length:Int))=false:=by rw[kqr];omega
  have r:(a.length != b.length)=false:=by rw[kqr];exact g
  have T:=hid g;clear K g;go_enter func79,ntmps79;go_wp2_with fail;go_loopw [5] (λi wr=>∃k:Nat,k<=a.length/\i=.int .i64 k/\Hid (a.take k=b.take k)/\Below w.heap.size w wr) (λi _=>a.length-(intOf i).toNat)
  case atStart=>exact⟨0,kqz _,rfl,rfl,kqk _ _⟩
  obtain⟨k,hk,rfl,G,t⟩:=hrel;by_cases l:k<a.length
  .have f:k<b.length:=by have:=T.out;omega
   obtain⟨D,F,rfl,hg1,U⟩:=RdW.at_ (Rd.below S.out t) l;obtain⟨I,M,rfl,hg2,O⟩:=RdW.at_ (Rd.below P.out t) f;have o:=hid (λh=>oT l f G.out h);have p:=hid (v.out k l f);obtain⟨x,C⟩:=xq (a[k]);obtain⟨y,L⟩:=xq (b[k]);rw[C] at U o p;rw[L] at O o p;have hk1:(k:Int)<(a.length:Int):=by omega
   have hk2:(k:Int)<(b.length:Int):=by omega
   have hk0:(0:Int)<=(k:Int):=by omega
   clear C L;have j:((x==y)=true/\((x:Int) != (y:Int))=false/\(x != y)=false)\/((x==y)=false/\((x:Int) != (y:Int))=true/\(x != y)=true):=by
    by_cases e:x=y
    .left;subst e;simp
    right;exact⟨by rw[kqi];exact e,by rw[kqv];omega,by rw[kqv];exact e⟩
   rcases j with⟨u,R,Q⟩|⟨u,R,Q⟩
   .have s:=hid (o.out (by rw[kqx] at u;exact u));go_wp2_with fail
    first
     | (go_region_held3 (λX:World=>X.cell? ⟨D,F+k,none⟩=some (.int .u64 (x:Int))/\X.cell? ⟨I,M+k,none⟩=some (.int .u64 (y:Int))) (go_keep) (fail))
     | fail
    go_wp2;go_roundw
    case rel=>exact⟨k+1,by omega,by go_num,s.out,t.drew⟩
    case measure=>simp[intOf];omega
   have s:=hid (p.out (by intro h;rw[h] at u;simp at u));go_wp2_with fail
   first
    | (go_region_held3 (λX:World=>X.cell? ⟨D,F+k,none⟩=some (.int .u64 (x:Int))/\X.cell? ⟨I,M+k,none⟩=some (.int .u64 (y:Int))) (go_keep) (fail))
    | fail
   go_wp2;go_ret;exact⟨by rw[s.out];rfl,t.drew⟩
  have s:=hid (E.out (by have:=G.out;rwa [show k=a.length by omega] at this));go_wp2;go_ret;exact⟨by rw[s.out];rfl,t⟩
 have v:=hid (qz g);have z:((a.length:Int) != (b.length:Int))=true:=by rw[kqv];omega
 have r:(a.length != b.length)=true:=by rw[kqv];exact g
 clear g;go_enter func79,ntmps79;go_wp2;go_ret;exact⟨by rw[v.out];rfl,kqk _ _⟩
def sp7 (n t:Nat):List Nat:=[32777959566500194,1,n,t,0,0,0]
def spL (n t:Nat):List Nat:=sp7 n t++[a8 14695981039346656037 (sp7 n t)]
theorem Ab(n t:Nat):(spL n t).length=8:=rfl
def qC (l:List Nat):Bool:=ak ((wd l 2:Nat):Int)&&(decide (wd l 3<=8)&&decide (spL (wd l 2) (wd l 3)=l))
def kM (l:List Nat):Int:=if qC l=true then 0 else 50
def spV (l:List Nat):Value:=if qC l=true then .agg #[.int .i64 ((wd l 2:Nat):Int),.int .i64 ((wd l 3:Nat):Int)] else .agg #[.int .i64 0,.int .i64 0]
def sp8 (ws:List Nat) (a:Nat):List Nat:=(ws.drop a).take 8
theorem lh{i:Nat}(h:i<8):wd (sp8 ws a) i=wd ws (a+i):=by unfold sp8 wd;rw[kk5,if_pos h,kxr]
def kU (ws:List Nat) (a:Nat):Bool:=qC (sp8 ws a)&&wd ws (a+2)==ws.length
def tyN (ws:List Nat):Option Nat:=if kU ws 0=true then some (wd ws 3) else if kU ws 8=true then some (wd ws 11) else none
theorem lV(l:List Nat):qC l=true↔ak ((wd l 2:Nat):Int)=true/\wd l 3<=8/\spL (wd l 2) (wd l 3)=l:=by unfold qC;simp
theorem rZ{t:Nat}(h:tyN ws=some t):t<=8:=by
 unfold tyN at h;split at h
 .rename_i h1;simp only[Option.some.injEq] at h;unfold kU at h1;rw[kqu] at h1;have:=((lV _).1 h1.1).2.1;rw[lh (by omega)] at this;simp at this;omega
 split at h
 .rename_i h1;simp only[Option.some.injEq] at h;unfold kU at h1;rw[kqu] at h1;have:=((lV _).1 h1.1).2.1;rw[lh (by omega)] at this;simp at this;omega
 cases h
def jS (n t:Nat):Int:=if ak (n:Int)=true then (if t<=8 then 0 else 8) else 8
theorem yz(n t:Nat)(w:World)(hn:n<=1000000)(ht:t<=1000000):
 Calls prog 286 #[.agg #[.int .i64 (n:Int),.int .i64 (t:Int)]] w λe w'=>e=.returned (.int .i64 (jS n t))/\Below w.heap.size w w':=by
 have f:=hid ((kqk w.heap.size w).alloc (kqa _) (.cells #[.int .i64 (n:Int),.int .i64 (t:Int)] 126));have b:=hid (λW=>rS n W (by omega));have d1:decide ((t:Int)<0)=false:=by rw[kqh];omega
 cases a:ak (n:Int)
 .have c:=hid (show jS n t=8 by simp[jS,a]);rw[a] at b;clear a;go_enter func286,ntmps286;go_wp2_with fail;refine (b.out _).mono ?_;rintro e g ⟨rfl,rfl⟩;go_wp2;go_ret;exact⟨by rw[c.out];rfl,f.out⟩
 rw[a] at b;by_cases h:t<=8
 .have c:=hid (show jS n t=0 by simp[jS,a,h]);have i:decide ((8:Int)<(t:Int))=false:=by rw[kqh];omega
  have d:decide (8<t)=false:=by rw[kqh];omega
  clear a;go_enter func286,ntmps286;go_wp2_with fail;refine (b.out _).mono ?_;rintro e g ⟨rfl,rfl⟩;go_wp2;go_ret;exact⟨by rw[c.out];rfl,f.out⟩
 have c:=hid (show jS n t=8 by simp[jS,a,h]);have i:decide ((8:Int)<(t:Int))=true:=by rw[kqo];omega
 have d:decide (8<t)=true:=by rw[kqo];omega
 clear a;go_enter func286,ntmps286;go_wp2_with fail;refine (b.out _).mono ?_;rintro e g ⟨rfl,rfl⟩;go_wp2;go_ret;exact⟨by rw[c.out];rfl,f.out⟩
theorem Bb:(prog.info? 53).map (λi=>(i.zero,i.size,i.bytes))=some (some (.int .u64 0),1,8):=by kernel_rfl
theorem tr(n t:Nat)(w:World)(hn:n<=1000000)(ht:t<=1000000):
 Calls prog 109 #[.agg #[.int .i64 (n:Int),.int .i64 (t:Int)]] w λe w'=>(∃A c,e=.returned (.slice A 8 c)/\w'.ownsRow w.heap.size 53 1 (.slice A 8 c) 8 ((spL n t).flatMap ae))/\Below w.heap.size w w':=by
 have B:=hid (λA W (H:RdW W W.heap.size A (sp7 n t))=>rC A (sp7 n t) 7 7 W rfl (by omega) H (λx E=>by
  simp only[sp7,kqw,kzk,or_false] at E;omega))
 have C:=hid (show (spL n t).flatMap ae=[.int .u64 32777959566500194,.int .u64 1,.int .u64 (n:Int),.int .u64 (t:Int),.int .u64 0,.int .u64 0,.int .u64 0]++[.int .u64 ((a8 14695981039346656037 (sp7 n t):Nat):Int)] by
  unfold spL;rw[cB];rfl)
 obtain⟨q,D⟩:=xq (a8 14695981039346656037 (sp7 n t));rw[D] at B C;have u:=hid ((kqk w.heap.size w).alloc (kqa _) (.cells #[.int .i64 (n:Int),.int .i64 (t:Int)] 126));have w1:IntKind.u64.wrap (n:Int)=(n:Int):=kzw _ (by omega);have w2:IntKind.u64.wrap (t:Int)=(t:Int):=kzw _ (by omega);clear D;obtain⟨J,z,i,k,l⟩:=kzr Bb;have G:=hid z;have p:=hid i;have y:=hid k;have r:=hid l;clear z i k l;go_enter func109,ntmps109;go_wp2_with fail;obtain⟨o,g⟩:∃o,w.alloc (.cells #[.int .i64 (n:Int),.int .i64 (t:Int)] 126)=o:=⟨_,rfl⟩;have j:o.heap.size=w.heap.size+1:=by rw[<-g,kqm]
 rw[g] at u |-;have m:=u.out.size;have a:=cJ (n:=7) (sz:=1) o 53 #[.int .u64 32777959566500194,.int .u64 1,.int .u64 (n:Int),.int .u64 (t:Int),.int .u64 0,.int .u64 0,.int .u64 0] m rfl (by unfold maxLen;omega);rw[j] at a;clear j;refine (B.out _ _ (show Rd _ _ _ _ from Rd.of_own a)).mono ?_;rintro e w5 ⟨rfl,h⟩;have b:=aa a h (kqa _);have f:=hid ((u.out.alloc m (.cells #[.int .u64 32777959566500194,.int .u64 1,.int .u64 (n:Int),.int .u64 (t:Int),.int .u64 0,.int .u64 0,.int .u64 0] 53)).trans (h.mono (by simp;omega)));clear g a h;go_wp2_with (at_builtin;refine kzh _ rfl _ _ 22 rfl w.heap.size 53 J _ 1 8 underlying22 G.out p.out y.out r.out rfl (by decide) _ _ _ rfl (b.alloc _) ⟨_,0,none⟩ 1 1 [.int .u64 (q:Int)] rfl rfl (cI _ _ _) (by simp[Value.oneCell']) (by unfold maxLen;omega) (by omega) (aS f.out.size) ?_;intro v1 w6 d v _;have s:=aF f.out f.out.size b v);obtain⟨F,I,rfl⟩:=aE d;go_ret;exact⟨⟨F,I,rfl,by rw[C.out];exact d⟩,s⟩
theorem cO(h:fn.results=#[.cell p 126,.tmp q])(tmps:Array Value)(hb:Bx W g t #[v0,v1])(hp:tmps.getD p undef=.pointer (some ⟨g,0,none⟩))(hq:tmps.getD q undef=u):
 (results fn tmps).run prog W=.ok (.tuple #[.agg #[v0,v1],u]) W:=by obtain⟨a,b,-⟩:=hb.c2;rw[kxt] at hp hq;simp[results,h,hp,hq,go_sem,a,b]
theorem nF(h:qC l=false):spV l=.agg #[.int .i64 0,.int .i64 0]/\kM l=50:=by simp[spV,kM,h]
theorem np(h:qC l=true):spV l=.agg #[.int .i64 ((wd l 2:Nat):Int),.int .i64 ((wd l 3:Nat):Int)]/\kM l=0:=by simp[spV,kM,h]
theorem wJ(h:¬ (ak ((wd l 2:Nat):Int)=true/\wd l 3<=8)):qC l=false:=by
 cases a:qC l with
 | false=>rfl
 | true=>exact absurd ⟨((lV l).1 a).1,((lV l).1 a).2.1⟩ h
theorem D8(A:Option Addr)(l:List Nat)(c:Nat)(w:World)(hn:l.length=8)(hr:RdW w w.heap.size A l):
 Calls prog 260 #[.slice A 8 c] w λe w'=>e=.returned (.tuple #[spV l,.int .i64 (kM l)])/\Below w.heap.size w w':=by
 obtain⟨b,k,rfl,hb,c2⟩:=RdW.at_ hr (show 2<l.length by omega);obtain⟨b',off',e',-,c3⟩:=RdW.at_ hr (show 3<l.length by omega);cases e';rw[<-cF] at c2 c3;have O:=hid (λh=>ab ((wd l 2:Nat):Int) |>.1 h);have j:=hid (λh=>wJ (l:=l) h);have s:=hid (λh=>nF (l:=l) h);have C:=hid (λh=>np (l:=l) h);have u:Hid (ak ((wd l 2:Nat):Int)=true->wd l 3<=8->qC l=decide (spL (wd l 2) (wd l 3)=l)):=hid λh1 h2=>by
  unfold qC;rw[h1,decide_eq_true h2];rfl
 have HR:=hid hr;have x0:=Bx.new w 126 #[.int .i64 0,.int .i64 0];have R:=hid x0;have t:=hid ((kqk w.heap.size w).alloc (kqa _) (.cells #[.int .i64 0,.int .i64 0] 126));have L:=(kze w (.cells #[.int .i64 0,.int .i64 0] 126) ⟨b,k+2,none⟩ hb).trans c2;have J:=(kze w (.cells #[.int .i64 0,.int .i64 0] 126) ⟨b,k+3,none⟩ hb).trans c3;have HL:=hid hn;obtain⟨x,hx⟩:=xq (wd l 2);obtain⟨y,hy⟩:=xq (wd l 3);rw[hx] at O j C u L;rw[hy] at j C u J;clear hx hy c2 c3 hr hn x0;by_cases K:1000000<x
 .have a:=hid (s.out (j.out λh=>by have:=O.out h.1;omega));have d1:decide ((1000000:Int)<(x:Int))=true:=by rw[kqo];omega
  have d1n:decide (1000000<x)=true:=by rw[kqo];omega
  go_enter func260,ntmps260;go_wp2_with fail;exact kqq (v:=.tuple #[.agg #[.int .i64 0,.int .i64 0],.int .i64 50]) (cO results260 _ R.out rfl rfl) rfl ⟨by rw[a.out.1,a.out.2],t.out⟩
 have d1:decide ((1000000:Int)<(x:Int))=false:=by rw[kqh];omega
 have d1n:decide (1000000<x)=false:=by rw[kqh];omega
 by_cases Kx:1000000<y
 .have a:=hid (s.out (j.out λh=>by have:=h.2;omega));have d2:decide ((1000000:Int)<(y:Int))=true:=by rw[kqo];omega
  have d2n:decide (1000000<y)=true:=by rw[kqo];omega
  clear K;go_enter func260,ntmps260;go_wp2_with fail;exact kqq (v:=.tuple #[.agg #[.int .i64 0,.int .i64 0],.int .i64 50]) (cO results260 _ R.out rfl rfl) rfl ⟨by rw[a.out.1,a.out.2],t.out⟩
 have d2:decide ((1000000:Int)<(y:Int))=false:=by rw[kqh];omega
 have d2n:decide (1000000<y)=false:=by rw[kqh];omega
 have HC:=hid (λW=>yz x y W (by omega) (by omega));have HW:=hid (λW=>tr x y W (by omega) (by omega));have w1:IntKind.i64.wrap (x:Int)=(x:Int):=kqt _ (by omega);have w2:IntKind.i64.wrap (y:Int)=(y:Int):=kqt _ (by omega);have Z:=hid (Ab x y);clear K Kx;go_enter func260,ntmps260;go_wp2_with fail
 go_region_held3 (λX:World=>X.cell? ⟨b,k+2,none⟩=some (.int .u64 (x:Int))/\X.cell? ⟨b,k+3,none⟩=some (.int .u64 (y:Int))) (go_keep) (fail)
 go_wp2_with fail;obtain⟨F,m⟩:∃F,((w.alloc (.cells #[.int .i64 0,.int .i64 0] 126)).alloc (.cells #[.int .i64 (x:Int),.int .i64 (y:Int)] 126)).drew=F:=⟨_,rfl⟩;have X1:=hid (show Bx F w.heap.size 126 #[.int .i64 0,.int .i64 0] by rw[<-m];exact R.out.alloc _);have U:Bx F (w.heap.size+1) 126 #[.int .i64 (x:Int),.int .i64 (y:Int)]:=by rw[<-m];have:=Bx.new (w.alloc (.cells #[.int .i64 0,.int .i64 0] 126)) 126 #[.int .i64 (x:Int),.int .i64 (y:Int)];rw[kqm] at this;exact this
 have o:Below w.heap.size w F:=by rw[<-m];exact (t.out.alloc (by simp) _).drew
 have Eq:=hid (HR.out.up o o.size);have hz5:w.heap.size+1<F.heap.size:=U.lt;have G:=hid o;rw[m];have hH:=‹_/\_›;clear hH m o L J R;refine (HC.out _).mono ?_;rintro e w6 ⟨rfl,d⟩;have q:=hid (X1.out.up d X1.out.lt);have B:=U.up d U.lt;obtain⟨q0,q1,-,-,Kz⟩:=B.c2;have N:=hid B;have D:=hid (G.out.trans (d.mono G.out.size));have Ky:=hid (Eq.out.up d d.size);clear U B d HC;by_cases n:jS x y=0
 .have E:ak (x:Int)=true/\y<=8:=by
   unfold jS at n;split at n
   .split at n
    .exact ⟨by assumption,by assumption⟩
    exact absurd n (by decide)
   exact absurd n (by decide)
  have p:=hid (u.out E.1 E.2);rw[n];clear n E;go_wp2_with fail;refine (HW.out _).mono ?_;rintro e S ⟨⟨A7,c7,rfl,i⟩,f⟩;have V:=hid (Ky.out.up f f.size);have M:=hid (q.out.up f q.out.lt);have Q:=hid (N.out.up f N.out.lt);have P:=hid (D.out.trans (f.mono D.out.size));have Y:=hid (show RdW S S.heap.size A7 (spL x y) from Rd.of_own i);clear i f q0 q1 Kz;go_wp2_with fail;refine (C4 A7 (some ⟨b,k,none⟩) (spL x y) l 8 8 c7 c S.heap.size S Z.out HL.out (by omega) Y.out V.out (kqa _)).mono ?_;rintro e w8 ⟨rfl,g⟩;have r:=M.out.up g M.out.lt;have I:=hid r;have z:=Q.out.up g Q.out.lt;obtain⟨q0,q1,-,-,hg8⟩:=z.c2;obtain⟨r0,r1,f0,f1,Kw⟩:=r.c2;have H:=hid (P.out.trans (g.mono P.out.size));cases T:decide (spL x y=l)
  .rw[T] at p;have a:=hid (s.out p.out);clear T r z g;go_wp2_with fail;exact kqq (v:=.tuple #[.agg #[.int .i64 0,.int .i64 0],.int .i64 50]) (cO results260 _ ((I.out.set_ 0 _).set_ 1 _) rfl rfl) rfl ⟨by rw[a.out.1,a.out.2],(H.out.setCell (by simp) _).setCell (by simp) _⟩
  rw[T] at p;have a:=hid (C.out p.out);clear T r z g;go_wp2_with fail;exact kqq (v:=.tuple #[.agg #[.int .i64 (x:Int),.int .i64 (y:Int)],.int .i64 0]) (cO results260 _ ((I.out.set_ 0 _).set_ 1 _) rfl rfl) rfl ⟨by rw[a.out.1,a.out.2],(H.out.setCell (by simp) _).setCell (by simp) _⟩
 have a:=hid (s.out (j.out λh=>n (by unfold jS;rw[if_pos h.1,if_pos h.2])));have hne:(jS x y != 0)=true:=by rw[kqv];exact n
 obtain⟨r0,r1,f0,f1,Kw⟩:=q.out.c2;clear n;go_wp2_with fail;exact kqq (v:=.tuple #[.agg #[.int .i64 0,.int .i64 0],.int .i64 50]) (cO results260 _ ((q.out.set_ 0 _).set_ 1 _) rfl rfl) rfl ⟨by rw[a.out.1,a.out.2],(D.out.setCell (by simp) _).setCell (by simp) _⟩
def cpV (ws:List Nat) (a:Nat):Value:=if kU ws a=true then .agg #[.int .i64 ((wd ws (a+2):Nat):Int),.int .i64 ((wd ws (a+3):Nat):Int)] else .agg #[.int .i64 0,.int .i64 0]
theorem mr(h:a+8<=ws.length):(sp8 ws a).length=8:=by unfold sp8;rw[kq4,kzp];omega
theorem DV{w:World}{B:Nat}{A:Option Addr}(h:RdW w B A ws)(a:Nat):RdW w B (A.map (·.add a)) (sp8 ws a):=by unfold RdW sp8 at *;rw[yR _ bY,pI _ bY];exact (Rd.drop_ h a).take_ 8
theorem sU(A:Option Addr)(ws:List Nat)(c n k:Nat)(w:World)(hn:ws.length=n)(hm:n<=2048)(h256:256<=n)(hk:k<=1)(hc:n<=c)(F:RdW w w.heap.size A ws):
 Calls prog 210 #[.slice A n c,.int .i64 (k:Int)] w λe w'=>e=.returned (.tuple #[cpV ws (8*k),.bool (kU ws (8*k))])/\Below w.heap.size w w':=by
 subst hn;obtain⟨b,z,rfl,hb,-⟩:=RdW.at_ F (show 0<ws.length by omega);have K:=mr (ws:=ws) (a:=8*k) (by omega);have M:=λW (F:RdW W W.heap.size (some ⟨b,z,none⟩) ws)=>DV F (8*k);have p:=hid (λW (F:RdW W W.heap.size (some ⟨b,z,none⟩) ws)=>(D8 (some ⟨b,z+8*k,none⟩) (sp8 ws (8*k)) (c-8*k) W K (by
  have:=M W F;simp only[kzz] at this;have e:(⟨b,z,none⟩:Addr).add (8*k)=⟨b,z+8*k,none⟩:=by unfold Addr.add;split<;>simp_all
  rw[e] at this;exact this)))
 have P:=hid F;have U:=Bx.new w 126 #[.int .i64 0,.int .i64 0];have G:=hid U;have d:=hid ((kqk w.heap.size w).alloc (kqa _) (.cells #[.int .i64 0,.int .i64 0] 126));have O:wd (sp8 ws (8*k)) 2=wd ws (8*k+2):=lh (by omega);have N:wd (sp8 ws (8*k)) 3=wd ws (8*k+3):=lh (by omega);have B:kU ws (8*k)=(qC (sp8 ws (8*k))&&wd ws (8*k+2)==ws.length):=rfl;have k1:IntKind.i64.wrap ((8:Int)*(k:Int))=((8*k:Nat):Int):=by rw[kqt _ (by omega)];omega
 have k2:IntKind.i64.wrap (((8*k:Nat):Int)+8)=((8*k+8:Nat):Int):=by rw[kqt _ (by omega)];omega
 have k3:8*k+8<=c:=by omega
 have k4:8*k<=8*k+8:=by omega
 obtain⟨j,hj⟩:=xq (8*k);rw[hj] at p k1 k2 k3 k4 B O N |-;obtain⟨l,R⟩:=xq (sp8 ws j);rw[R] at p B O N;clear F U K M R;have m:∀r:Bool,kU ws j=r->Hid (cpV ws j=if r=true then .agg #[.int .i64 ((wd ws (j+2):Nat):Int),.int .i64 ((wd ws (j+3):Nat):Int)] else .agg #[.int .i64 0,.int .i64 0]):=λr h=>hid (by unfold cpV;rw[h]);have C:=hid (λh=>nF (l:=l) h);have g:=hid (λh=>np (l:=l) h);rw[O,N] at g;have m:=hid m;have o:=hid B;obtain⟨x,S⟩:=xq (wd ws (j+2));obtain⟨y,Y⟩:=xq (wd ws (j+3));rw[S] at o m g;rw[Y] at m g;clear S Y O N B;cases E:qC l
 .have D:=C.out E;have f:kU ws j=false:=by rw[o.out,E];rfl
  have L:=m.out _ f;have u:=hid f;rw[D.1,D.2] at p;clear E D f C g o m;go_enter func210,ntmps210;go_wp2_with fail;refine (p.out _ (P.out.up d.out d.out.size)).mono ?_;rintro e H ⟨rfl,i⟩;have q:=G.out.up i G.out.lt;obtain⟨p0,X,V,Z,T⟩:=q.c2;have J:=hid q;have t:=hid (d.out.trans (i.mono d.out.size));have I:w.heap.size<H.heap.size:=q.lt;clear q i;go_wp2_with fail;exact kqq (v:=.tuple #[.agg #[.int .i64 0,.int .i64 0],.bool false]) (cO results210 _ (((J.out.set_ 0 _).set_ 1 _).alloc _) rfl rfl) rfl ⟨by rw[L.out,u.out];rfl,((t.out.setCell (kqa _) _).setCell (kqa _) _).alloc (by simp;omega) _⟩
 have D:=g.out E;rw[D.1,D.2] at p;by_cases s:x=ws.length
 .have f:kU ws j=true:=by rw[o.out,E,s];simp
  have L:=m.out _ f;have u:=hid f;have d1:((x:Int) != (ws.length:Int))=false:=by rw[kqr];omega
  have Q:(x != ws.length)=false:=by rw[kqr];exact s
  clear E D f C g o m s;go_enter func210,ntmps210;go_wp2_with fail;refine (p.out _ (P.out.up d.out d.out.size)).mono ?_;rintro e H ⟨rfl,i⟩;have q:=G.out.up i G.out.lt;obtain⟨p0,X,V,Z,T⟩:=q.c2;have J:=hid q;have t:=hid (d.out.trans (i.mono d.out.size));have I:w.heap.size<H.heap.size:=q.lt;clear q i;go_wp2_with fail;exact kqq (v:=.tuple #[.agg #[.int .i64 (x:Int),.int .i64 (y:Int)],.bool true]) (cO results210 _ (((J.out.set_ 0 _).set_ 1 _).alloc _) rfl rfl) rfl ⟨by rw[L.out,u.out];rfl,((t.out.setCell (kqa _) _).setCell (kqa _) _).alloc (by simp;omega) _⟩
 have f:kU ws j=false:=by rw[o.out,E];simp[s]
 have L:=m.out _ f;have u:=hid f;have d1:((x:Int) != (ws.length:Int))=true:=by rw[kqv];omega
 have Q:(x != ws.length)=true:=by rw[kqv];exact s
 clear E D f C g o m s;go_enter func210,ntmps210;go_wp2_with fail;refine (p.out _ (P.out.up d.out d.out.size)).mono ?_;rintro e H ⟨rfl,i⟩;have q:=G.out.up i G.out.lt;obtain⟨p0,X,V,Z,T⟩:=q.c2;have J:=hid q;have t:=hid (d.out.trans (i.mono d.out.size));have I:w.heap.size<H.heap.size:=q.lt;clear q i;go_wp2_with fail;exact kqq (v:=.tuple #[.agg #[.int .i64 0,.int .i64 0],.bool false]) (cO results210 _ (((J.out.set_ 0 _).set_ 1 _).alloc _) rfl rfl) rfl ⟨by rw[L.out,u.out];rfl,((t.out.setCell (kqa _) _).setCell (kqa _) _).alloc (by simp;omega) _⟩
def jF (ws:List Nat):Int:=if ak (ws.length:Int)=true then (if (tyN ws).isSome=true then 0 else 50) else 8
def Cu (ws:List Nat) (e:Ending):Prop:=∃(a:Int) (b0 b1:Bool),e=.returned (.tuple #[.agg #[.int .i64 a,.int .i64 (((tyN ws).getD 0:Nat):Int)],.agg #[.bool b0,.bool b1],.int .i64 (jF ws)])
theorem db{r:Tmp}(h:fn.results=#[.cell p 126,.cell q 127,.tmp r])(tmps:Array Value){g':Nat}{t':TypeId}{u0 u1:Value}(hb:Bx W g t #[v0,v1])(hb':Bx W g' t' #[u0,u1])(hp:tmps.getD p undef=.pointer (some ⟨g,0,none⟩))(hp':tmps.getD q undef=.pointer (some ⟨g',0,none⟩))(hq:tmps.getD r undef=u):
 (results fn tmps).run prog W=.ok (.tuple #[.agg #[v0,v1],.agg #[u0,u1],u]) W:=by obtain⟨a,c,-⟩:=hb.c2;obtain⟨b,d,-⟩:=hb'.c2;rw[kxt] at hp hp' hq;simp[results,h,hp,hp',hq,go_sem,a,c,b,d]
theorem ug(h:ak (ws.length:Int)=false):tyN ws=none/\jF ws=8:=by
 have b:∀a,kU ws a=false:=λa=>by
  cases c:kU ws a with
  | false=>rfl
  | true =>unfold kU at c;simp only[kqu,kqx] at c;have d:=((lV _).1 c.1).1;rw[lh (by omega),c.2,h] at d;cases d
 exact⟨by unfold tyN;rw[b,b];rfl,by unfold jF;rw[h];rfl⟩
theorem As :jF ws=0↔ak (ws.length:Int)=true/\(tyN ws).isSome=true:=by
 unfold jF;split
 .split<;>simp_all
 simp_all
theorem rL(A:Option Addr)(ws:List Nat)(c n:Nat)(w:World)(hn:ws.length=n)(hm:n<=9223372036854775807)(hc:n<=c)(F:RdW w w.heap.size A ws):
 Calls prog 149 #[.slice A n c] w λe w'=>Cu ws e/\Below w.heap.size w w':=by
 subst hn;have M:=hid F;have r:=hid (λW=>mI A ws.length c W hm);have j:=hid (((kqk w.heap.size w).alloc (kqa _) (.cells #[.int .i64 0,.int .i64 0] 126)).alloc (by simp) (.cells #[.bool false,.bool false] 127));have P:=(Bx.new w 126 #[.int .i64 0,.int .i64 0]).alloc (.cells #[.bool false,.bool false] 127);have N:=Bx.new (w.alloc (.cells #[.int .i64 0,.int .i64 0] 126)) 127 #[.bool false,.bool false];rw[kqm] at N;have J:=hid P;have K:=hid N;clear P N F;cases z:ak (ws.length:Int)
 .have f:=hid (ug z);rw[bL z] at r;clear z;go_enter func149,ntmps149;go_wp2_with fail;refine (r.out _).mono ?_;rintro e S ⟨rfl,rfl⟩;go_wp2_with fail;exact kqq (v:=.tuple #[.agg #[.int .i64 0,.int .i64 0],.agg #[.bool false,.bool false],.int .i64 8]) (db results149 _ J.out K.out rfl rfl rfl) rfl ⟨⟨0,false,false,by rw[f.out.1,f.out.2];rfl⟩,j.out⟩
 have T:=(ab _).1 z;rw[aV z] at r;have g:=hid (λW (F:RdW W W.heap.size A ws)=>(show Calls prog 210 #[.slice A ws.length c,.int .i64 0] W λe w'=>e=.returned (.tuple #[cpV ws 0,.bool (kU ws 0)])/\Below W.heap.size W w' from sU A ws c ws.length 0 W rfl (by omega) (by omega) (by omega) hc F));have d:=hid (λW (F:RdW W W.heap.size A ws)=>(show Calls prog 210 #[.slice A ws.length c,.int .i64 1] W λe w'=>e=.returned (.tuple #[cpV ws 8,.bool (kU ws 8)])/\Below W.heap.size W w' from sU A ws c ws.length 1 W rfl (by omega) (by omega) (by omega) hc F));have f:Hid (tyN ws=(if kU ws 0=true then some (wd ws 3) else if kU ws 8=true then some (wd ws 11) else none)/\jF ws=if (tyN ws).isSome=true then 0 else 50):=hid ⟨rfl,by unfold jF;rw[if_pos z]⟩;unfold cpV at g d;simp only[kxd,Nat.reduceAdd] at g d;obtain⟨t,I⟩:=xq (wd ws 2);obtain⟨E,D⟩:=xq (wd ws 3);obtain⟨Q,H⟩:=xq (wd ws 10);obtain⟨U,B⟩:=xq (wd ws 11);rw[I,D] at g;rw[H,B] at d;rw[D,B] at f;clear z T I D H B;cases O:kU ws 0<;>cases L:kU ws 8
 all_goals
  rw[O] at g;rw[L] at d;rw[O,L] at f;simp only[if_true,kzm,if_false] at g d f;clear O L;go_enter func149,ntmps149;go_wp2_with fail;refine (r.out _).mono ?_;rintro e S ⟨rfl,rfl⟩;go_wp2_with fail;refine (g.out _ (M.out.up j.out j.out.size)).mono ?_;rintro e R ⟨rfl,k⟩;have C:=hid (J.out.up k J.out.lt);have u:=hid (K.out.up k K.out.lt);have s:=j.out.trans (k.mono j.out.size);clear k;go_wp2_with fail;have G:=s.size;have h:=hid (s.alloc G (.cells #[.int .i64 0,.int .i64 0] 126));have b:=hid (s.alloc G (.cells #[.int .i64 (t:Int),.int .i64 (E:Int)] 126));have hl0:=C.out.lt;have hl1:=u.out.lt;clear s
  first
   | refine (d.out _ (M.out.up h.out h.out.size)).mono ?_
   | refine (d.out _ (M.out.up b.out b.out.size)).mono ?_
  rintro e w3 ⟨rfl,a⟩
  first
   | (
    have i:=h.out.trans (a.mono h.out.size);have m:=(C.out.alloc (.cells #[.int .i64 0,.int .i64 0] 126)).up a (by simp;omega);have l:=(u.out.alloc (.cells #[.int .i64 0,.int .i64 0] 126)).up a (by simp;omega);have y:=(Bx.new R 126 #[.int .i64 0,.int .i64 0]).up a (by simp))
   | (
    have i:=b.out.trans (a.mono b.out.size);have m:=(C.out.alloc (.cells #[.int .i64 (t:Int),.int .i64 (E:Int)] 126)).up a (by simp;omega);have l:=(u.out.alloc (.cells #[.int .i64 (t:Int),.int .i64 (E:Int)] 126)).up a (by simp;omega);have y:=(Bx.new R 126 #[.int .i64 (t:Int),.int .i64 (E:Int)]).up a (by simp))
  obtain⟨p0,p1,f0,f1,hg0⟩:=m.c2;obtain⟨q0,q1,g0,g1,hg1⟩:=l.c2;obtain⟨r0,r1,-,-,hg2⟩:=y.c2;have o:=hid m;have p:=hid l;have q:=hid i;clear i a m l y h b;go_wp2_with fail
 all_goals
  first
   | exact kqq (v:=.tuple #[.agg #[.int .i64 0,.int .i64 0],.agg #[.bool false,.bool false],.int .i64 50]) (db results149 _ (((((o.out.set_ 0 _).set_ 1 _).far (by simp) _).far (by simp) _).alloc _) (((((p.out.far (by simp) _).far (by simp) _).set_ 0 _).set_ 1 _).alloc _) rfl rfl rfl) rfl ⟨⟨0,false,false,by rw[f.out.2,f.out.1];rfl⟩,((((q.out.setCell (kqa _) _).setCell (kqa _) _).setCell (kz8 _) _).setCell (kz8 _) _).alloc (by simp;omega) _⟩
   | exact kqq (v:=.tuple #[.agg #[.int .i64 (Q:Int),.int .i64 (U:Int)],.agg #[.bool false,.bool true],.int .i64 0]) (db results149 _ (((((o.out.set_ 0 _).set_ 1 _).far (by simp) _).far (by simp) _).alloc _) (((((p.out.far (by simp) _).far (by simp) _).set_ 0 _).set_ 1 _).alloc _) rfl rfl rfl) rfl ⟨⟨Q,false,true,by rw[f.out.2,f.out.1];rfl⟩,((((q.out.setCell (kqa _) _).setCell (kqa _) _).setCell (kz8 _) _).setCell (kz8 _) _).alloc (by simp;omega) _⟩
   | exact kqq (v:=.tuple #[.agg #[.int .i64 (t:Int),.int .i64 (E:Int)],.agg #[.bool true,.bool false],.int .i64 0]) (db results149 _ (((((o.out.set_ 0 _).set_ 1 _).far (by simp) _).far (by simp) _).alloc _) (((((p.out.far (by simp) _).far (by simp) _).set_ 0 _).set_ 1 _).alloc _) rfl rfl rfl) rfl ⟨⟨t,true,false,by rw[f.out.2,f.out.1];rfl⟩,((((q.out.setCell (kqa _) _).setCell (kqa _) _).setCell (kz8 _) _).setCell (kz8 _) _).alloc (by simp;omega) _⟩
   | exact kqq (v:=.tuple #[.agg #[.int .i64 (t:Int),.int .i64 (E:Int)],.agg #[.bool true,.bool true],.int .i64 0]) (db results149 _ (((((o.out.set_ 0 _).set_ 1 _).far (by simp) _).far (by simp) _).alloc _) (((((p.out.far (by simp) _).far (by simp) _).set_ 0 _).set_ 1 _).alloc _) rfl rfl rfl) rfl ⟨⟨t,true,true,by rw[f.out.2,f.out.1];rfl⟩,((((q.out.setCell (kqa _) _).setCell (kqa _) _).setCell (kz8 _) _).setCell (kz8 _) _).alloc (by simp;omega) _⟩
end Go.Proofs.YtpcajamacpbjcaaGreat
