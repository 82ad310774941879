/- Texts laid together: R02S SupP SupR SupS SupT. -/
import Derived.Test.YtpcajamacpbjcaaGreatZKMove
import Derived.Test.YtpcajamacpbjcaaGreatZKImage
import Derived.Test.YtpcajamacpbjcaaGreatZKRef15
import Derived.Test.YtpcajamacpbjcaaGreatZKStg2
set_option maxHeartbeats 16000000
set_option maxRecDepth 100000
set_option linter.all false
namespace Go.Proofs.YtpcajamacpbjcaaGreat
open Lib (hid)
open Go.RowKit
variable {fn:Func}{l ws:List Nat}{a g:Nat}{p q:Tmp}{t:TypeId}{u v0 v1:Value}{W:World}
open Go.Proofs.Tryz
theorem Ad(A B:Option Addr)(a b:List Nat)(n m c d H:Nat)(w:World)(hn:a.length=n)(hm:b.length=m)(h1:n<=1000000)(ha:RdW w H A a)(hb:RdW w H B b)(hH:H<=w.heap.size):
 Calls prog 79 #[.slice A n c,.slice B m d] w λe w'=>e=.returned (.bool (decide (a=b)))/\Below w.heap.size w w':=by
 subst hn hm;have O:=hid (ha.more hH);have T:=hid (hb.more hH);clear ha hb hH;by_cases j:a.length=b.length
 .have J:Hid (a.take a.length=b.take a.length->decide (a=b)=true):=hid λh=>t4 j h;have v:Hid (∀k (h:k<a.length) (L:k<b.length),a[k]≠b[k]->decide (a=b)=false):=hid λk h L R=>Bf h L R;obtain⟨q,M⟩:=xq (decide (a=b));rw[M] at J v |-;have z:((a.length:Int) != (b.length:Int))=false:=by rw[kqq];omega
  have u:(a.length != b.length)=false:=by rw[kqq];exact j
  have P:=hid j;clear M j;go_enter func79,ntmps79;go_wp2_with fail;go_loopw [5] (λi wr=>∃k:Nat,k<=a.length/\i=.int .i64 k/\Hid (a.take k=b.take k)/\Below w.heap.size w wr) (λi _=>a.length-(intOf i).toNat)
  case atStart=>exact⟨0,kqy _,rfl,rfl,kql _ _⟩
  obtain⟨k,hk,rfl,K,r⟩:=hrel;by_cases l:k<a.length
  .have f:k<b.length:=by have:=P.out;omega
   obtain⟨C,E,rfl,hg1,S⟩:=RdW.at_ (Rd.below O.out r) l;obtain⟨D,F,rfl,hg2,N⟩:=RdW.at_ (Rd.below T.out r) f;have g:=hid (λh=>rz l f K.out h);have o:=hid (v.out k l f);obtain⟨x,I⟩:=xq (a[k]);obtain⟨y,G⟩:=xq (b[k]);rw[I] at S g o;rw[G] at N g o;have hk1:(k:Int)<(a.length:Int):=by omega
   have hk2:(k:Int)<(b.length:Int):=by omega
   have hk0:(0:Int)<=(k:Int):=by omega
   clear I G;have p:((x==y)=true/\((x:Int) != (y:Int))=false/\(x != y)=false)\/((x==y)=false/\((x:Int) != (y:Int))=true/\(x != y)=true):=by
    by_cases e:x=y
    .left;subst e;simp
    right;exact⟨by rw[kqi];exact e,by rw[kqv];omega,by rw[kqv];exact e⟩
   rcases p with⟨s,Q,U⟩|⟨s,Q,U⟩
   .have t:=hid (g.out (by rw[kqw] at s;exact s));go_wp2_with fail
    first
     | (go_region_held3 (λX:World=>X.cell? ⟨C,E+k,none⟩=some (.int .u64 (x:Int))/\X.cell? ⟨D,F+k,none⟩=some (.int .u64 (y:Int))) (go_keep) (fail))
     | fail
    go_wp2;go_roundw
    case rel=>exact⟨k+1,by omega,by go_num,t.out,r.drew⟩
    case measure=>simp[intOf];omega
   have t:=hid (o.out (by intro h;rw[h] at s;simp at s));go_wp2_with fail
   first
    | (go_region_held3 (λX:World=>X.cell? ⟨C,E+k,none⟩=some (.int .u64 (x:Int))/\X.cell? ⟨D,F+k,none⟩=some (.int .u64 (y:Int))) (go_keep) (fail))
    | fail
   go_wp2;go_ret;exact⟨by rw[t.out];rfl,r.drew⟩
  have t:=hid (J.out (by have:=K.out;rwa [show k=a.length by omega] at this));go_wp2;go_ret;exact⟨by rw[t.out];rfl,r⟩
 have v:=hid (uo j);have z:((a.length:Int) != (b.length:Int))=true:=by rw[kqv];omega
 have u:(a.length != b.length)=true:=by rw[kqv];exact j
 clear j;go_enter func79,ntmps79;go_wp2;go_ret;exact⟨by rw[v.out];rfl,kql _ _⟩
def sp7 (n t:Nat):List Nat:=[32777959566500194,1,n,t,0,0,0]
def spL (n t:Nat):List Nat:=sp7 n t++[aS 14695981039346656037 (sp7 n t)]
theorem qx(n t:Nat):(spL n t).length=8:=rfl
def pj (l:List Nat):Bool:=aj ((wd l 2:Nat):Int)&&(decide (wd l 3<=8)&&decide (spL (wd l 2) (wd l 3)=l))
def jS (l:List Nat):Int:=if pj l=true then 0 else 50
def spV (l:List Nat):Value:=if pj l=true then .agg #[.int .i64 ((wd l 2:Nat):Int),.int .i64 ((wd l 3:Nat):Int)] else .agg #[.int .i64 0,.int .i64 0]
def sp8 (ws:List Nat) (a:Nat):List Nat:=(ws.drop a).take 8
theorem nK{i:Nat}(h:i<8):wd (sp8 ws a) i=wd ws (a+i):=by unfold sp8 wd;rw[kkw,if_pos h,kxn]
def k9 (ws:List Nat) (a:Nat):Bool:=pj (sp8 ws a)&&wd ws (a+2)==ws.length
def tyN (ws:List Nat):Option Nat:=if k9 ws 0=true then some (wd ws 3) else if k9 ws 8=true then some (wd ws 11) else none
theorem kS(l:List Nat):pj l=true↔aj ((wd l 2:Nat):Int)=true/\wd l 3<=8/\spL (wd l 2) (wd l 3)=l:=by unfold pj;simp
theorem uE{t:Nat}(h:tyN ws=some t):t<=8:=by
 unfold tyN at h;split at h
 .rename_i h1;simp only[Option.some.injEq] at h;unfold k9 at h1;rw[kqt] at h1;have:=((kS _).1 h1.1).2.1;rw[nK (by omega)] at this;simp at this;omega
 split at h
 .rename_i h1;simp only[Option.some.injEq] at h;unfold k9 at h1;rw[kqt] at h1;have:=((kS _).1 h1.1).2.1;rw[nK (by omega)] at this;simp at this;omega
 cases h
def jw (n t:Nat):Int:=if aj (n:Int)=true then (if t<=8 then 0 else 8) else 8
theorem wQ(n t:Nat)(w:World)(hn:n<=1000000)(ht:t<=1000000):
 Calls prog 286 #[.agg #[.int .i64 (n:Int),.int .i64 (t:Int)]] w λe w'=>e=.returned (.int .i64 (jw n t))/\Below w.heap.size w w':=by
 have f:=hid ((kql w.heap.size w).alloc (kqd _) (.cells #[.int .i64 (n:Int),.int .i64 (t:Int)] 126));have c:=hid (λW=>rQ n W (by omega));have d1:decide ((t:Int)<0)=false:=by rw[kqh];omega
 cases a:aj (n:Int)
 .have b:=hid (show jw n t=8 by simp[jw,a]);rw[a] at c;clear a;go_enter func286,ntmps286;go_wp2_with fail;refine (c.out _).mono ?_;rintro e g ⟨rfl,rfl⟩;go_wp2;go_ret;exact⟨by rw[b.out];rfl,f.out⟩
 rw[a] at c;by_cases h:t<=8
 .have b:=hid (show jw n t=0 by simp[jw,a,h]);have i:decide ((8:Int)<(t:Int))=false:=by rw[kqh];omega
  have d:decide (8<t)=false:=by rw[kqh];omega
  clear a;go_enter func286,ntmps286;go_wp2_with fail;refine (c.out _).mono ?_;rintro e g ⟨rfl,rfl⟩;go_wp2;go_ret;exact⟨by rw[b.out];rfl,f.out⟩
 have b:=hid (show jw n t=8 by simp[jw,a,h]);have i:decide ((8:Int)<(t:Int))=true:=by rw[kqn];omega
 have d:decide (8<t)=true:=by rw[kqn];omega
 clear a;go_enter func286,ntmps286;go_wp2_with fail;refine (c.out _).mono ?_;rintro e g ⟨rfl,rfl⟩;go_wp2;go_ret;exact⟨by rw[b.out];rfl,f.out⟩
theorem zR:(prog.info? 53).map (λi=>(i.zero,i.size,i.bytes))=some (some (.int .u64 0),1,8):=by kernel_rfl
theorem lY(n t:Nat)(w:World)(hn:n<=1000000)(ht:t<=1000000):
 Calls prog 109 #[.agg #[.int .i64 (n:Int),.int .i64 (t:Int)]] w λe w'=>(∃A c,e=.returned (.slice A 8 c)/\w'.ownsRow w.heap.size 53 1 (.slice A 8 c) 8 ((spL n t).flatMap ab))/\Below w.heap.size w w':=by
 have B:=hid (λA W (I:RdW W W.heap.size A (sp7 n t))=>pX A (sp7 n t) 7 7 W rfl (by omega) I (λx J=>by
  simp only[sp7,kqx,kzf,or_false] at J;omega))
 have z:=hid (show (spL n t).flatMap ab=[.int .u64 32777959566500194,.int .u64 1,.int .u64 (n:Int),.int .u64 (t:Int),.int .u64 0,.int .u64 0,.int .u64 0]++[.int .u64 ((aS 14695981039346656037 (sp7 n t):Nat):Int)] by
  unfold spL;rw[ce];rfl)
 obtain⟨q,D⟩:=xq (aS 14695981039346656037 (sp7 n t));rw[D] at B z;have r:=hid ((kql w.heap.size w).alloc (kqd _) (.cells #[.int .i64 (n:Int),.int .i64 (t:Int)] 126));have w1:IntKind.u64.wrap (n:Int)=(n:Int):=kzt _ (by omega);have w2:IntKind.u64.wrap (t:Int)=(t:Int):=kzt _ (by omega);clear D;obtain⟨H,C,j,k,l⟩:=kzv zR;have E:=hid C;have p:=hid j;have v:=hid k;have s:=hid l;clear C j k l;go_enter func109,ntmps109;go_wp2_with fail;obtain⟨o,g⟩:∃o,w.alloc (.cells #[.int .i64 (n:Int),.int .i64 (t:Int)] 126)=o:=⟨_,rfl⟩;have m:o.heap.size=w.heap.size+1:=by rw[<-g,kqm]
 rw[g] at r |-;have i:=r.out.size;have a:=dh (n:=7) (sz:=1) o 53 #[.int .u64 32777959566500194,.int .u64 1,.int .u64 (n:Int),.int .u64 (t:Int),.int .u64 0,.int .u64 0,.int .u64 0] i rfl (by unfold maxLen;omega);rw[m] at a;clear m;refine (B.out _ _ (show Rd _ _ _ _ from Rd.of_own a)).mono ?_;rintro e w5 ⟨rfl,f⟩;have d:=ai a f (kqd _);have h:=hid ((r.out.alloc i (.cells #[.int .u64 32777959566500194,.int .u64 1,.int .u64 (n:Int),.int .u64 (t:Int),.int .u64 0,.int .u64 0,.int .u64 0] 53)).trans (f.mono (by simp;omega)));clear g a f;go_wp2_with (at_builtin;refine kzd _ rfl _ _ 22 rfl w.heap.size 53 H _ 1 8 underlying22 E.out p.out v.out s.out rfl (by decide) _ _ _ rfl (d.alloc _) ⟨_,0,none⟩ 1 1 [.int .u64 (q:Int)] rfl rfl (cC _ _ _) (by simp[Value.oneCell']) (by unfold maxLen;omega) (by omega) (cB h.out.size) ?_;intro v1 w6 b y _;have u:=aC h.out h.out.size d y);obtain⟨G,F,rfl⟩:=aJ b;go_ret;exact⟨⟨G,F,rfl,by rw[z.out];exact b⟩,u⟩
theorem cu(h:fn.results=#[.cell p 126,.tmp q])(tmps:Array Value)(hb:Bx W g t #[v0,v1])(hp:tmps.getD p undef=.pointer (some ⟨g,0,none⟩))(hq:tmps.getD q undef=u):
 (results fn tmps).run prog W=.ok (.tuple #[.agg #[v0,v1],u]) W:=by obtain⟨a,b,-⟩:=hb.c2;rw[kxq] at hp hq;simp[results,h,hp,hq,go_sem,a,b]
theorem nz(h:pj l=false):spV l=.agg #[.int .i64 0,.int .i64 0]/\jS l=50:=by simp[spV,jS,h]
theorem mu(h:pj l=true):spV l=.agg #[.int .i64 ((wd l 2:Nat):Int),.int .i64 ((wd l 3:Nat):Int)]/\jS l=0:=by simp[spV,jS,h]
theorem uV(h:¬ (aj ((wd l 2:Nat):Int)=true/\wd l 3<=8)):pj l=false:=by
 cases a:pj l with
 | false=>rfl
 | true=>exact absurd ⟨((kS l).1 a).1,((kS l).1 a).2.1⟩ h
theorem Ai(A:Option Addr)(l:List Nat)(c:Nat)(w:World)(hn:l.length=8)(hr:RdW w w.heap.size A l):
 Calls prog 260 #[.slice A 8 c] w λe w'=>e=.returned (.tuple #[spV l,.int .i64 (jS l)])/\Below w.heap.size w w':=by
 obtain⟨b,m,rfl,hb,c2⟩:=RdW.at_ hr (show 2<l.length by omega);obtain⟨b',off',e',-,c3⟩:=RdW.at_ hr (show 3<l.length by omega);cases e';rw[<-cq] at c2 c3;have M:=hid (λh=>aa ((wd l 2:Nat):Int) |>.1 h);have g:=hid (λh=>uV (l:=l) h);have q:=hid (λh=>nz (l:=l) h);have B:=hid (λh=>mu (l:=l) h);have u:Hid (aj ((wd l 2:Nat):Int)=true->wd l 3<=8->pj l=decide (spL (wd l 2) (wd l 3)=l)):=hid λh1 h2=>by
  unfold pj;rw[h1,decide_eq_true h2];rfl
 have HR:=hid hr;have x0:=Bx.new w 126 #[.int .i64 0,.int .i64 0];have R:=hid x0;have t:=hid ((kql w.heap.size w).alloc (kqd _) (.cells #[.int .i64 0,.int .i64 0] 126));have J:=(kzi w (.cells #[.int .i64 0,.int .i64 0] 126) ⟨b,m+2,none⟩ hb).trans c2;have K:=(kzi w (.cells #[.int .i64 0,.int .i64 0] 126) ⟨b,m+3,none⟩ hb).trans c3;have HL:=hid hn;obtain⟨x,hx⟩:=xq (wd l 2);obtain⟨y,hy⟩:=xq (wd l 3);rw[hx] at M g B u J;rw[hy] at g B u K;clear hx hy c2 c3 hr hn x0;by_cases G:1000000<x
 .have a:=hid (q.out (g.out λh=>by have:=M.out h.1;omega));have d1:decide ((1000000:Int)<(x:Int))=true:=by rw[kqn];omega
  have V:decide (1000000<x)=true:=by rw[kqn];omega
  go_enter func260,ntmps260;go_wp2_with fail;exact kqr (v:=.tuple #[.agg #[.int .i64 0,.int .i64 0],.int .i64 50]) (cu results260 _ R.out rfl rfl) rfl ⟨by rw[a.out.1,a.out.2],t.out⟩
 have d1:decide ((1000000:Int)<(x:Int))=false:=by rw[kqh];omega
 have V:decide (1000000<x)=false:=by rw[kqh];omega
 by_cases Ja:1000000<y
 .have a:=hid (q.out (g.out λh=>by have:=h.2;omega));have d2:decide ((1000000:Int)<(y:Int))=true:=by rw[kqn];omega
  have d2n:decide (1000000<y)=true:=by rw[kqn];omega
  clear G;go_enter func260,ntmps260;go_wp2_with fail;exact kqr (v:=.tuple #[.agg #[.int .i64 0,.int .i64 0],.int .i64 50]) (cu results260 _ R.out rfl rfl) rfl ⟨by rw[a.out.1,a.out.2],t.out⟩
 have d2:decide ((1000000:Int)<(y:Int))=false:=by rw[kqh];omega
 have d2n:decide (1000000<y)=false:=by rw[kqh];omega
 have HC:=hid (λW=>wQ x y W (by omega) (by omega));have HW:=hid (λW=>lY x y W (by omega) (by omega));have w1:IntKind.i64.wrap (x:Int)=(x:Int):=kqs _ (by omega);have w2:IntKind.i64.wrap (y:Int)=(y:Int):=kqs _ (by omega);have Z:=hid (qx x y);clear G Ja;go_enter func260,ntmps260;go_wp2_with fail
 go_region_held3 (λX:World=>X.cell? ⟨b,m+2,none⟩=some (.int .u64 (x:Int))/\X.cell? ⟨b,m+3,none⟩=some (.int .u64 (y:Int))) (go_keep) (fail)
 go_wp2_with fail;obtain⟨F,i⟩:∃F,((w.alloc (.cells #[.int .i64 0,.int .i64 0] 126)).alloc (.cells #[.int .i64 (x:Int),.int .i64 (y:Int)] 126)).drew=F:=⟨_,rfl⟩;have X1:=hid (show Bx F w.heap.size 126 #[.int .i64 0,.int .i64 0] by rw[<-i];exact R.out.alloc _);have U:Bx F (w.heap.size+1) 126 #[.int .i64 (x:Int),.int .i64 (y:Int)]:=by rw[<-i];have:=Bx.new (w.alloc (.cells #[.int .i64 0,.int .i64 0] 126)) 126 #[.int .i64 (x:Int),.int .i64 (y:Int)];rw[kqm] at this;exact this
 have p:Below w.heap.size w F:=by rw[<-i];exact (t.out.alloc (by simp) _).drew
 have Jd:=hid (HR.out.up p p.size);have hz5:w.heap.size+1<F.heap.size:=U.lt;have P:=hid p;rw[i];have hH:=‹_/\_›;clear hH i p J K R;refine (HC.out _).mono ?_;rintro e w6 ⟨rfl,f⟩;have o:=hid (X1.out.up f X1.out.lt);have z:=U.up f U.lt;obtain⟨q0,q1,-,-,Eq⟩:=z.c2;have N:=hid z;have E:=hid (P.out.trans (f.mono P.out.size));have Je:=hid (Jd.out.up f f.size);clear U z f HC;by_cases n:jw x y=0
 .have D:aj (x:Int)=true/\y<=8:=by
   unfold jw at n;split at n
   .split at n
    .exact ⟨by assumption,by assumption⟩
    exact absurd n (by decide)
   exact absurd n (by decide)
  have r:=hid (u.out D.1 D.2);rw[n];clear n D;go_wp2_with fail;refine (HW.out _).mono ?_;rintro e T ⟨⟨A7,c7,rfl,k⟩,d⟩;have Jb:=hid (Je.out.up d d.size);have L:=hid (o.out.up d o.out.lt);have O:=hid (N.out.up d N.out.lt);have I:=hid (E.out.trans (d.mono E.out.size));have Y:=hid (show RdW T T.heap.size A7 (spL x y) from Rd.of_own k);clear k d q0 q1 Eq;go_wp2_with fail;refine (Ad A7 (some ⟨b,m,none⟩) (spL x y) l 8 8 c7 c T.heap.size T Z.out HL.out (by omega) Y.out Jb.out (kqd _)).mono ?_;rintro e w8 ⟨rfl,j⟩;have s:=L.out.up j L.out.lt;have H:=hid s;have C:=O.out.up j O.out.lt;obtain⟨q0,q1,-,-,hg8⟩:=C.c2;obtain⟨r0,r1,f0,f1,Jc⟩:=s.c2;have Q:=hid (I.out.trans (j.mono I.out.size));cases S:decide (spL x y=l)
  .rw[S] at r;have a:=hid (q.out r.out);clear S s C j;go_wp2_with fail;exact kqr (v:=.tuple #[.agg #[.int .i64 0,.int .i64 0],.int .i64 50]) (cu results260 _ ((H.out.set_ 0 _).set_ 1 _) rfl rfl) rfl ⟨by rw[a.out.1,a.out.2],(Q.out.setCell (by simp) _).setCell (by simp) _⟩
  rw[S] at r;have a:=hid (B.out r.out);clear S s C j;go_wp2_with fail;exact kqr (v:=.tuple #[.agg #[.int .i64 (x:Int),.int .i64 (y:Int)],.int .i64 0]) (cu results260 _ ((H.out.set_ 0 _).set_ 1 _) rfl rfl) rfl ⟨by rw[a.out.1,a.out.2],(Q.out.setCell (by simp) _).setCell (by simp) _⟩
 have a:=hid (q.out (g.out λh=>n (by unfold jw;rw[if_pos h.1,if_pos h.2])));have hne:(jw x y != 0)=true:=by rw[kqv];exact n
 obtain⟨r0,r1,f0,f1,Jc⟩:=o.out.c2;clear n;go_wp2_with fail;exact kqr (v:=.tuple #[.agg #[.int .i64 0,.int .i64 0],.int .i64 50]) (cu results260 _ ((o.out.set_ 0 _).set_ 1 _) rfl rfl) rfl ⟨by rw[a.out.1,a.out.2],(E.out.setCell (by simp) _).setCell (by simp) _⟩
def cpV (ws:List Nat) (a:Nat):Value:=if k9 ws a=true then .agg #[.int .i64 ((wd ws (a+2):Nat):Int),.int .i64 ((wd ws (a+3):Nat):Int)] else .agg #[.int .i64 0,.int .i64 0]
theorem sB(h:a+8<=ws.length):(sp8 ws a).length=8:=by unfold sp8;rw[kq3,kzk];omega
theorem z9{w:World}{B:Nat}{A:Option Addr}(h:RdW w B A ws)(a:Nat):RdW w B (A.map (·.add a)) (sp8 ws a):=by unfold RdW sp8 at *;rw[ll _ bh,oN _ bh];exact (Rd.drop_ h a).take_ 8
theorem qN(A:Option Addr)(ws:List Nat)(c n k:Nat)(w:World)(hn:ws.length=n)(hm:n<=2048)(h256:256<=n)(hk:k<=1)(hc:n<=c)(F:RdW w w.heap.size A ws):
 Calls prog 210 #[.slice A n c,.int .i64 (k:Int)] w λe w'=>e=.returned (.tuple #[cpV ws (8*k),.bool (k9 ws (8*k))])/\Below w.heap.size w w':=by
 subst hn;obtain⟨b,z,rfl,hb,-⟩:=RdW.at_ F (show 0<ws.length by omega);have M:=sB (ws:=ws) (a:=8*k) (by omega);have K:=λW (F:RdW W W.heap.size (some ⟨b,z,none⟩) ws)=>z9 F (8*k);have p:=hid (λW (F:RdW W W.heap.size (some ⟨b,z,none⟩) ws)=>(Ai (some ⟨b,z+8*k,none⟩) (sp8 ws (8*k)) (c-8*k) W M (by
  have:=K W F;simp only[kzz] at this;have e:(⟨b,z,none⟩:Addr).add (8*k)=⟨b,z+8*k,none⟩:=by unfold Addr.add;split<;>simp_all
  rw[e] at this;exact this)))
 have Q:=hid F;have U:=Bx.new w 126 #[.int .i64 0,.int .i64 0];have G:=hid U;have d:=hid ((kql w.heap.size w).alloc (kqd _) (.cells #[.int .i64 0,.int .i64 0] 126));have N:wd (sp8 ws (8*k)) 2=wd ws (8*k+2):=nK (by omega);have O:wd (sp8 ws (8*k)) 3=wd ws (8*k+3):=nK (by omega);have B:k9 ws (8*k)=(pj (sp8 ws (8*k))&&wd ws (8*k+2)==ws.length):=rfl;have k1:IntKind.i64.wrap ((8:Int)*(k:Int))=((8*k:Nat):Int):=by rw[kqs _ (by omega)];omega
 have k2:IntKind.i64.wrap (((8*k:Nat):Int)+8)=((8*k+8:Nat):Int):=by rw[kqs _ (by omega)];omega
 have k3:8*k+8<=c:=by omega
 have k4:8*k<=8*k+8:=by omega
 obtain⟨j,hj⟩:=xq (8*k);rw[hj] at p k1 k2 k3 k4 B N O |-;obtain⟨l,S⟩:=xq (sp8 ws j);rw[S] at p B N O;clear F U M K S;have m:∀r:Bool,k9 ws j=r->Hid (cpV ws j=if r=true then .agg #[.int .i64 ((wd ws (j+2):Nat):Int),.int .i64 ((wd ws (j+3):Nat):Int)] else .agg #[.int .i64 0,.int .i64 0]):=λr h=>hid (by unfold cpV;rw[h]);have C:=hid (λh=>nz (l:=l) h);have f:=hid (λh=>mu (l:=l) h);rw[N,O] at f;have m:=hid m;have o:=hid B;obtain⟨x,hx⟩:=xq (wd ws (j+2));obtain⟨y,Y⟩:=xq (wd ws (j+3));rw[hx] at o m f;rw[Y] at m f;clear hx Y N O B;cases D:pj l
 .have E:=C.out D;have g:k9 ws j=false:=by rw[o.out,D];rfl
  have I:=m.out _ g;have t:=hid g;rw[E.1,E.2] at p;clear D E g C f o m;go_enter func210,ntmps210;go_wp2_with fail;refine (p.out _ (Q.out.up d.out d.out.size)).mono ?_;rintro e L ⟨rfl,i⟩;have q:=G.out.up i G.out.lt;obtain⟨X,V,T,Z,R⟩:=q.c2;have H:=hid q;have u:=hid (d.out.trans (i.mono d.out.size));have J:w.heap.size<L.heap.size:=q.lt;clear q i;go_wp2_with fail;exact kqr (v:=.tuple #[.agg #[.int .i64 0,.int .i64 0],.bool false]) (cu results210 _ (((H.out.set_ 0 _).set_ 1 _).alloc _) rfl rfl) rfl ⟨by rw[I.out,t.out];rfl,((u.out.setCell (kqd _) _).setCell (kqd _) _).alloc (by simp;omega) _⟩
 have E:=f.out D;rw[E.1,E.2] at p;by_cases s:x=ws.length
 .have g:k9 ws j=true:=by rw[o.out,D,s];simp
  have I:=m.out _ g;have t:=hid g;have d1:((x:Int) != (ws.length:Int))=false:=by rw[kqq];omega
  have P:(x != ws.length)=false:=by rw[kqq];exact s
  clear D E g C f o m s;go_enter func210,ntmps210;go_wp2_with fail;refine (p.out _ (Q.out.up d.out d.out.size)).mono ?_;rintro e L ⟨rfl,i⟩;have q:=G.out.up i G.out.lt;obtain⟨X,V,T,Z,R⟩:=q.c2;have H:=hid q;have u:=hid (d.out.trans (i.mono d.out.size));have J:w.heap.size<L.heap.size:=q.lt;clear q i;go_wp2_with fail;exact kqr (v:=.tuple #[.agg #[.int .i64 (x:Int),.int .i64 (y:Int)],.bool true]) (cu results210 _ (((H.out.set_ 0 _).set_ 1 _).alloc _) rfl rfl) rfl ⟨by rw[I.out,t.out];rfl,((u.out.setCell (kqd _) _).setCell (kqd _) _).alloc (by simp;omega) _⟩
 have g:k9 ws j=false:=by rw[o.out,D];simp[s]
 have I:=m.out _ g;have t:=hid g;have d1:((x:Int) != (ws.length:Int))=true:=by rw[kqv];omega
 have P:(x != ws.length)=true:=by rw[kqv];exact s
 clear D E g C f o m s;go_enter func210,ntmps210;go_wp2_with fail;refine (p.out _ (Q.out.up d.out d.out.size)).mono ?_;rintro e L ⟨rfl,i⟩;have q:=G.out.up i G.out.lt;obtain⟨X,V,T,Z,R⟩:=q.c2;have H:=hid q;have u:=hid (d.out.trans (i.mono d.out.size));have J:w.heap.size<L.heap.size:=q.lt;clear q i;go_wp2_with fail;exact kqr (v:=.tuple #[.agg #[.int .i64 0,.int .i64 0],.bool false]) (cu results210 _ (((H.out.set_ 0 _).set_ 1 _).alloc _) rfl rfl) rfl ⟨by rw[I.out,t.out];rfl,((u.out.setCell (kqd _) _).setCell (kqd _) _).alloc (by simp;omega) _⟩
def jf (ws:List Nat):Int:=if aj (ws.length:Int)=true then (if (tyN ws).isSome=true then 0 else 50) else 8
def yK (ws:List Nat) (e:Ending):Prop:=∃(a:Int) (b0 b1:Bool),e=.returned (.tuple #[.agg #[.int .i64 a,.int .i64 (((tyN ws).getD 0:Nat):Int)],.agg #[.bool b0,.bool b1],.int .i64 (jf ws)])
theorem cK{r:Tmp}(h:fn.results=#[.cell p 126,.cell q 127,.tmp r])(tmps:Array Value){g':Nat}{t':TypeId}{u0 u1:Value}(hb:Bx W g t #[v0,v1])(hb':Bx W g' t' #[u0,u1])(hp:tmps.getD p undef=.pointer (some ⟨g,0,none⟩))(hp':tmps.getD q undef=.pointer (some ⟨g',0,none⟩))(hq:tmps.getD r undef=u):
 (results fn tmps).run prog W=.ok (.tuple #[.agg #[v0,v1],.agg #[u0,u1],u]) W:=by obtain⟨d,a,-⟩:=hb.c2;obtain⟨b,c,-⟩:=hb'.c2;rw[kxq] at hp hp' hq;simp[results,h,hp,hp',hq,go_sem,d,a,b,c]
theorem tu(h:aj (ws.length:Int)=false):tyN ws=none/\jf ws=8:=by
 have b:∀a,k9 ws a=false:=λa=>by
  cases c:k9 ws a with
  | false=>rfl
  | true =>unfold k9 at c;simp only[kqt,kqw] at c;have d:=((kS _).1 c.1).1;rw[nK (by omega),c.2,h] at d;cases d
 exact⟨by unfold tyN;rw[b,b];rfl,by unfold jf;rw[h];rfl⟩
theorem yN :jf ws=0↔aj (ws.length:Int)=true/\(tyN ws).isSome=true:=by
 unfold jf;split
 .split<;>simp_all
 simp_all
theorem rG(A:Option Addr)(ws:List Nat)(c n:Nat)(w:World)(hn:ws.length=n)(hm:n<=9223372036854775807)(hc:n<=c)(E:RdW w w.heap.size A ws):
 Calls prog 149 #[.slice A n c] w λe w'=>yK ws e/\Below w.heap.size w w':=by
 subst hn;have O:=hid E;have m:=hid (λW=>lX A ws.length c W hm);have h:=hid (((kql w.heap.size w).alloc (kqd _) (.cells #[.int .i64 0,.int .i64 0] 126)).alloc (by simp) (.cells #[.bool false,.bool false] 127));have P:=(Bx.new w 126 #[.int .i64 0,.int .i64 0]).alloc (.cells #[.bool false,.bool false] 127);have K:=Bx.new (w.alloc (.cells #[.int .i64 0,.int .i64 0] 126)) 127 #[.bool false,.bool false];rw[kqm] at K;have M:=hid P;have J:=hid K;clear P K E;cases y:aj (ws.length:Int)
 .have f:=hid (tu y);rw[bD y] at m;clear y;go_enter func149,ntmps149;go_wp2_with fail;refine (m.out _).mono ?_;rintro e T ⟨rfl,rfl⟩;go_wp2_with fail;exact kqr (v:=.tuple #[.agg #[.int .i64 0,.int .i64 0],.agg #[.bool false,.bool false],.int .i64 8]) (cK results149 _ M.out J.out rfl rfl rfl) rfl ⟨⟨0,false,false,by rw[f.out.1,f.out.2];rfl⟩,h.out⟩
 have S:=(aa _).1 y;rw[aX y] at m;have g:=hid (λW (E:RdW W W.heap.size A ws)=>(show Calls prog 210 #[.slice A ws.length c,.int .i64 0] W λe w'=>e=.returned (.tuple #[cpV ws 0,.bool (k9 ws 0)])/\Below W.heap.size W w' from qN A ws c ws.length 0 W rfl (by omega) (by omega) (by omega) hc E));have d:=hid (λW (E:RdW W W.heap.size A ws)=>(show Calls prog 210 #[.slice A ws.length c,.int .i64 1] W λe w'=>e=.returned (.tuple #[cpV ws 8,.bool (k9 ws 8)])/\Below W.heap.size W w' from qN A ws c ws.length 1 W rfl (by omega) (by omega) (by omega) hc E));have f:Hid (tyN ws=(if k9 ws 0=true then some (wd ws 3) else if k9 ws 8=true then some (wd ws 11) else none)/\jf ws=if (tyN ws).isSome=true then 0 else 50):=hid ⟨rfl,by unfold jf;rw[if_pos y]⟩;unfold cpV at g d;simp only[kxa,Nat.reduceAdd] at g d;obtain⟨t,G⟩:=xq (wd ws 2);obtain⟨F,B⟩:=xq (wd ws 3);obtain⟨R,H⟩:=xq (wd ws 10);obtain⟨U,D⟩:=xq (wd ws 11);rw[G,B] at g;rw[H,D] at d;rw[B,D] at f;clear y S G B H D;cases N:k9 ws 0<;>cases L:k9 ws 8
 all_goals
  rw[N] at g;rw[L] at d;rw[N,L] at f;simp only[if_true,kzm,if_false] at g d f;clear N L;go_enter func149,ntmps149;go_wp2_with fail;refine (m.out _).mono ?_;rintro e T ⟨rfl,rfl⟩;go_wp2_with fail;refine (g.out _ (O.out.up h.out h.out.size)).mono ?_;rintro e Q ⟨rfl,r⟩;have z:=hid (M.out.up r M.out.lt);have C:=hid (J.out.up r J.out.lt);have q:=h.out.trans (r.mono h.out.size);clear r;go_wp2_with fail;have I:=q.size;have j:=hid (q.alloc I (.cells #[.int .i64 0,.int .i64 0] 126));have b:=hid (q.alloc I (.cells #[.int .i64 (t:Int),.int .i64 (F:Int)] 126));have hl0:=z.out.lt;have hl1:=C.out.lt;clear q
  first
   | refine (d.out _ (O.out.up j.out j.out.size)).mono ?_
   | refine (d.out _ (O.out.up b.out b.out.size)).mono ?_
  rintro e w3 ⟨rfl,a⟩
  first
   | (
    have i:=j.out.trans (a.mono j.out.size);have l:=(z.out.alloc (.cells #[.int .i64 0,.int .i64 0] 126)).up a (by simp;omega);have s:=(C.out.alloc (.cells #[.int .i64 0,.int .i64 0] 126)).up a (by simp;omega);have u:=(Bx.new Q 126 #[.int .i64 0,.int .i64 0]).up a (by simp))
   | (
    have i:=b.out.trans (a.mono b.out.size);have l:=(z.out.alloc (.cells #[.int .i64 (t:Int),.int .i64 (F:Int)] 126)).up a (by simp;omega);have s:=(C.out.alloc (.cells #[.int .i64 (t:Int),.int .i64 (F:Int)] 126)).up a (by simp;omega);have u:=(Bx.new Q 126 #[.int .i64 (t:Int),.int .i64 (F:Int)]).up a (by simp))
  obtain⟨p0,p1,f0,f1,hg0⟩:=l.c2;obtain⟨q0,q1,g0,g1,hg1⟩:=s.c2;obtain⟨r0,r1,-,-,hg2⟩:=u.c2;have o:=hid l;have k:=hid s;have p:=hid i;clear i a l s u j b;go_wp2_with fail
 all_goals
  first
   | exact kqr (v:=.tuple #[.agg #[.int .i64 0,.int .i64 0],.agg #[.bool false,.bool false],.int .i64 50]) (cK results149 _ (((((o.out.set_ 0 _).set_ 1 _).far (by simp) _).far (by simp) _).alloc _) (((((k.out.far (by simp) _).far (by simp) _).set_ 0 _).set_ 1 _).alloc _) rfl rfl rfl) rfl ⟨⟨0,false,false,by rw[f.out.2,f.out.1];rfl⟩,((((p.out.setCell (kqd _) _).setCell (kqd _) _).setCell (kx7 _) _).setCell (kx7 _) _).alloc (by simp;omega) _⟩
   | exact kqr (v:=.tuple #[.agg #[.int .i64 (R:Int),.int .i64 (U:Int)],.agg #[.bool false,.bool true],.int .i64 0]) (cK results149 _ (((((o.out.set_ 0 _).set_ 1 _).far (by simp) _).far (by simp) _).alloc _) (((((k.out.far (by simp) _).far (by simp) _).set_ 0 _).set_ 1 _).alloc _) rfl rfl rfl) rfl ⟨⟨R,false,true,by rw[f.out.2,f.out.1];rfl⟩,((((p.out.setCell (kqd _) _).setCell (kqd _) _).setCell (kx7 _) _).setCell (kx7 _) _).alloc (by simp;omega) _⟩
   | exact kqr (v:=.tuple #[.agg #[.int .i64 (t:Int),.int .i64 (F:Int)],.agg #[.bool true,.bool false],.int .i64 0]) (cK results149 _ (((((o.out.set_ 0 _).set_ 1 _).far (by simp) _).far (by simp) _).alloc _) (((((k.out.far (by simp) _).far (by simp) _).set_ 0 _).set_ 1 _).alloc _) rfl rfl rfl) rfl ⟨⟨t,true,false,by rw[f.out.2,f.out.1];rfl⟩,((((p.out.setCell (kqd _) _).setCell (kqd _) _).setCell (kx7 _) _).setCell (kx7 _) _).alloc (by simp;omega) _⟩
   | exact kqr (v:=.tuple #[.agg #[.int .i64 (t:Int),.int .i64 (F:Int)],.agg #[.bool true,.bool true],.int .i64 0]) (cK results149 _ (((((o.out.set_ 0 _).set_ 1 _).far (by simp) _).far (by simp) _).alloc _) (((((k.out.far (by simp) _).far (by simp) _).set_ 0 _).set_ 1 _).alloc _) rfl rfl rfl) rfl ⟨⟨t,true,true,by rw[f.out.2,f.out.1];rfl⟩,((((p.out.setCell (kqd _) _).setCell (kqd _) _).setCell (kx7 _) _).setCell (kx7 _) _).alloc (by simp;omega) _⟩
end Go.Proofs.YtpcajamacpbjcaaGreat
