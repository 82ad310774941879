/- Texts laid together: R02S SupP SupR SupS SupT. -/
import Derived.Test.YtpcajamacpbjcaaGreatZKMove
import Derived.Test.YtpcajamacpbjcaaGreatZKImage
import Derived.Test.YtpcajamacpbjcaaGreatZKRef15
import Derived.Test.YtpcajamacpbjcaaGreatZKStg2
set_option maxHeartbeats 16000000
set_option maxRecDepth 100000
set_option linter.all false
namespace Go.Proofs.YtpcajamacpbjcaaGreat
open Lib (hid)
open Go.RowKit
variable {fn:Func}{l ws:List Nat}{a g:Nat}{p q:Tmp}{t:TypeId}{u v0 v1:Value}{W:World}
open Go.Proofs.Tryz
theorem Bh(A B:Option Addr)(a b:List Nat)(n m c d H:Nat)(w:World)(hn:a.length=n)(hm:b.length=m)(h1:n<=1000000)(ha:RdW w H A a)(hb:RdW w H B b)(hH:H<=w.heap.size):
 Calls prog 79 #[.slice A n c,.slice B m d] w λe w'=>e=.returned (.bool (decide (a=b)))/\Below w.heap.size w w':=by
 subst hn hm;have P:=hid (ha.more hH);have T:=hid (hb.more hH);clear ha hb hH;by_cases j:a.length=b.length
 .have E:Hid (a.take a.length=b.take a.length->decide (a=b)=true):=hid λh=>vS j h;have v:Hid (∀k (h:k<a.length) (L:k<b.length),a[k]≠b[k]->decide (a=b)=false):=hid λk h L Q=>zW h L Q;obtain⟨q,C⟩:=xq (decide (a=b));rw[C] at E v |-;have z:((a.length:Int) != (b.length:Int))=false:=by rw[kqr];omega
  have r:(a.length != b.length)=false:=by rw[kqr];exact j
  have U:=hid j;clear C j;go_enter func79,ntmps79;go_wp2_with fail;go_loopw [5] (λi wr=>∃k:Nat,k<=a.length/\i=.int .i64 k/\Hid (a.take k=b.take k)/\Below w.heap.size w wr) (λi _=>a.length-(intOf i).toNat)
  case atStart=>exact⟨0,kqy _,rfl,rfl,kqk _ _⟩
  obtain⟨k,hk,rfl,J,t⟩:=hrel;by_cases l:k<a.length
  .have f:k<b.length:=by have:=U.out;omega
   obtain⟨F,G,rfl,hg1,R⟩:=RdW.at_ (Rd.below P.out t) l;obtain⟨K,I,rfl,hg2,O⟩:=RdW.at_ (Rd.below T.out t) f;have p:=hid (λh=>sh l f J.out h);have o:=hid (v.out k l f);obtain⟨x,D⟩:=xq (a[k]);obtain⟨y,M⟩:=xq (b[k]);rw[D] at R p o;rw[M] at O p o;have hk1:(k:Int)<(a.length:Int):=by omega
   have hk2:(k:Int)<(b.length:Int):=by omega
   have hk0:(0:Int)<=(k:Int):=by omega
   clear D M;have g:((x==y)=true/\((x:Int) != (y:Int))=false/\(x != y)=false)\/((x==y)=false/\((x:Int) != (y:Int))=true/\(x != y)=true):=by
    by_cases e:x=y
    .left;subst e;simp
    right;exact⟨by rw[kqi];exact e,by rw[kqv];omega,by rw[kqv];exact e⟩
   rcases g with⟨s,N,S⟩|⟨s,N,S⟩
   .have u:=hid (p.out (by rw[kqw] at s;exact s));go_wp2_with fail
    first
     | (go_region_held3 (λX:World=>X.cell? ⟨F,G+k,none⟩=some (.int .u64 (x:Int))/\X.cell? ⟨K,I+k,none⟩=some (.int .u64 (y:Int))) (go_keep) (fail))
     | fail
    go_wp2;go_roundw
    case rel=>exact⟨k+1,by omega,by go_num,u.out,t.drew⟩
    case measure=>simp[intOf];omega
   have u:=hid (o.out (by intro h;rw[h] at s;simp at s));go_wp2_with fail
   first
    | (go_region_held3 (λX:World=>X.cell? ⟨F,G+k,none⟩=some (.int .u64 (x:Int))/\X.cell? ⟨K,I+k,none⟩=some (.int .u64 (y:Int))) (go_keep) (fail))
    | fail
   go_wp2;go_ret;exact⟨by rw[u.out];rfl,t.drew⟩
  have u:=hid (E.out (by have:=J.out;rwa [show k=a.length by omega] at this));go_wp2;go_ret;exact⟨by rw[u.out];rfl,t⟩
 have v:=hid (vf j);have z:((a.length:Int) != (b.length:Int))=true:=by rw[kqv];omega
 have r:(a.length != b.length)=true:=by rw[kqv];exact j
 clear j;go_enter func79,ntmps79;go_wp2;go_ret;exact⟨by rw[v.out];rfl,kqk _ _⟩
def sp7 (n t:Nat):List Nat:=[32777959566500194,1,n,t,0,0,0]
def spL (n t:Nat):List Nat:=sp7 n t++[aY 14695981039346656037 (sp7 n t)]
theorem qJ(n t:Nat):(spL n t).length=8:=rfl
def qR (l:List Nat):Bool:=aj ((wd l 2:Nat):Int)&&(decide (wd l 3<=8)&&decide (spL (wd l 2) (wd l 3)=l))
def kf (l:List Nat):Int:=if qR l=true then 0 else 50
def spV (l:List Nat):Value:=if qR l=true then .agg #[.int .i64 ((wd l 2:Nat):Int),.int .i64 ((wd l 3:Nat):Int)] else .agg #[.int .i64 0,.int .i64 0]
def sp8 (ws:List Nat) (a:Nat):List Nat:=(ws.drop a).take 8
theorem ny{i:Nat}(h:i<8):wd (sp8 ws a) i=wd ws (a+i):=by unfold sp8 wd;rw[kk6,if_pos h,kx9]
def ly (ws:List Nat) (a:Nat):Bool:=qR (sp8 ws a)&&wd ws (a+2)==ws.length
def tyN (ws:List Nat):Option Nat:=if ly ws 0=true then some (wd ws 3) else if ly ws 8=true then some (wd ws 11) else none
theorem kI(l:List Nat):qR l=true↔aj ((wd l 2:Nat):Int)=true/\wd l 3<=8/\spL (wd l 2) (wd l 3)=l:=by unfold qR;simp
theorem uK{t:Nat}(h:tyN ws=some t):t<=8:=by
 unfold tyN at h;split at h
 .rename_i h1;simp only[Option.some.injEq] at h;unfold ly at h1;rw[kqt] at h1;have:=((kI _).1 h1.1).2.1;rw[ny (by omega)] at this;simp at this;omega
 split at h
 .rename_i h1;simp only[Option.some.injEq] at h;unfold ly at h1;rw[kqt] at h1;have:=((kI _).1 h1.1).2.1;rw[ny (by omega)] at this;simp at this;omega
 cases h
def jF (n t:Nat):Int:=if aj (n:Int)=true then (if t<=8 then 0 else 8) else 8
theorem xg(n t:Nat)(w:World)(hn:n<=1000000)(ht:t<=1000000):
 Calls prog 286 #[.agg #[.int .i64 (n:Int),.int .i64 (t:Int)]] w λe w'=>e=.returned (.int .i64 (jF n t))/\Below w.heap.size w w':=by
 have f:=hid ((kqk w.heap.size w).alloc (kqa _) (.cells #[.int .i64 (n:Int),.int .i64 (t:Int)] 126));have c:=hid (λW=>so n W (by omega));have d1:decide ((t:Int)<0)=false:=by rw[kqc];omega
 cases a:aj (n:Int)
 .have b:=hid (show jF n t=8 by simp[jF,a]);rw[a] at c;clear a;go_enter func286,ntmps286;go_wp2_with fail;refine (c.out _).mono ?_;rintro e h ⟨rfl,rfl⟩;go_wp2;go_ret;exact⟨by rw[b.out];rfl,f.out⟩
 rw[a] at c;by_cases g:t<=8
 .have b:=hid (show jF n t=0 by simp[jF,a,g]);have i:decide ((8:Int)<(t:Int))=false:=by rw[kqc];omega
  have d:decide (8<t)=false:=by rw[kqc];omega
  clear a;go_enter func286,ntmps286;go_wp2_with fail;refine (c.out _).mono ?_;rintro e h ⟨rfl,rfl⟩;go_wp2;go_ret;exact⟨by rw[b.out];rfl,f.out⟩
 have b:=hid (show jF n t=8 by simp[jF,a,g]);have i:decide ((8:Int)<(t:Int))=true:=by rw[kqn];omega
 have d:decide (8<t)=true:=by rw[kqn];omega
 clear a;go_enter func286,ntmps286;go_wp2_with fail;refine (c.out _).mono ?_;rintro e h ⟨rfl,rfl⟩;go_wp2;go_ret;exact⟨by rw[b.out];rfl,f.out⟩
theorem Bz:(prog.info? 53).map (λi=>(i.zero,i.size,i.bytes))=some (some (.int .u64 0),1,8):=by kernel_rfl
theorem me(n t:Nat)(w:World)(hn:n<=1000000)(ht:t<=1000000):
 Calls prog 109 #[.agg #[.int .i64 (n:Int),.int .i64 (t:Int)]] w λe w'=>(∃A c,e=.returned (.slice A 8 c)/\w'.ownsRow w.heap.size 53 1 (.slice A 8 c) 8 ((spL n t).flatMap ag))/\Below w.heap.size w w':=by
 have D:=hid (λA W (G:RdW W W.heap.size A (sp7 n t))=>ra A (sp7 n t) 7 7 W rfl (by omega) G (λx E=>by
  simp only[sp7,kqx,kzf,or_false] at E;omega))
 have C:=hid (show (spL n t).flatMap ag=[.int .u64 32777959566500194,.int .u64 1,.int .u64 (n:Int),.int .u64 (t:Int),.int .u64 0,.int .u64 0,.int .u64 0]++[.int .u64 ((aY 14695981039346656037 (sp7 n t):Nat):Int)] by
  unfold spL;rw[cq];rfl)
 obtain⟨q,z⟩:=xq (aY 14695981039346656037 (sp7 n t));rw[z] at D C;have y:=hid ((kqk w.heap.size w).alloc (kqa _) (.cells #[.int .i64 (n:Int),.int .i64 (t:Int)] 126));have w1:IntKind.u64.wrap (n:Int)=(n:Int):=kzt _ (by omega);have w2:IntKind.u64.wrap (t:Int)=(t:Int):=kzt _ (by omega);clear z;obtain⟨J,B,j,k,m⟩:=kzw Bz;have H:=hid B;have v:=hid j;have r:=hid k;have p:=hid m;clear B j k m;go_enter func109,ntmps109;go_wp2_with fail;obtain⟨o,f⟩:∃o,w.alloc (.cells #[.int .i64 (n:Int),.int .i64 (t:Int)] 126)=o:=⟨_,rfl⟩;have i:o.heap.size=w.heap.size+1:=by rw[<-f,kqm]
 rw[f] at y |-;have l:=y.out.size;have a:=de (n:=7) (sz:=1) o 53 #[.int .u64 32777959566500194,.int .u64 1,.int .u64 (n:Int),.int .u64 (t:Int),.int .u64 0,.int .u64 0,.int .u64 0] l rfl (by unfold maxLen;omega);rw[i] at a;clear i;refine (D.out _ _ (show Rd _ _ _ _ from Rd.of_own a)).mono ?_;rintro e w5 ⟨rfl,h⟩;have b:=ai a h (kqa _);have g:=hid ((y.out.alloc l (.cells #[.int .u64 32777959566500194,.int .u64 1,.int .u64 (n:Int),.int .u64 (t:Int),.int .u64 0,.int .u64 0,.int .u64 0] 53)).trans (h.mono (by simp;omega)));clear f a h;go_wp2_with (at_builtin;refine kze _ rfl _ _ 22 rfl w.heap.size 53 J _ 1 8 underlying22 H.out v.out r.out p.out rfl (by decide) _ _ _ rfl (b.alloc _) ⟨_,0,none⟩ 1 1 [.int .u64 (q:Int)] rfl rfl (cI _ _ _) (by simp[Value.oneCell']) (by unfold maxLen;omega) (by omega) (aS g.out.size) ?_;intro v1 w6 d s _;have u:=aE g.out g.out.size b s);obtain⟨F,I,rfl⟩:=aO d;go_ret;exact⟨⟨F,I,rfl,by rw[C.out];exact d⟩,u⟩
theorem cF(h:fn.results=#[.cell p 126,.tmp q])(tmps:Array Value)(hb:Bx W g t #[v0,v1])(hp:tmps.getD p undef=.pointer (some ⟨g,0,none⟩))(hq:tmps.getD q undef=u):
 (results fn tmps).run prog W=.ok (.tuple #[.agg #[v0,v1],u]) W:=by obtain⟨a,b,-⟩:=hb.c2;rw[kxp] at hp hq;simp[results,h,hp,hq,go_sem,a,b]
theorem mW(h:qR l=false):spV l=.agg #[.int .i64 0,.int .i64 0]/\kf l=50:=by simp[spV,kf,h]
theorem mM(h:qR l=true):spV l=.agg #[.int .i64 ((wd l 2:Nat):Int),.int .i64 ((wd l 3:Nat):Int)]/\kf l=0:=by simp[spV,kf,h]
theorem uL(h:¬ (aj ((wd l 2:Nat):Int)=true/\wd l 3<=8)):qR l=false:=by
 cases a:qR l with
 | false=>rfl
 | true=>exact absurd ⟨((kI l).1 a).1,((kI l).1 a).2.1⟩ h
theorem zF(A:Option Addr)(l:List Nat)(c:Nat)(w:World)(hn:l.length=8)(hr:RdW w w.heap.size A l):
 Calls prog 260 #[.slice A 8 c] w λe w'=>e=.returned (.tuple #[spV l,.int .i64 (kf l)])/\Below w.heap.size w w':=by
 obtain⟨b,g,rfl,hb,c2⟩:=RdW.at_ hr (show 2<l.length by omega);obtain⟨b',off',e',-,c3⟩:=RdW.at_ hr (show 3<l.length by omega);cases e';rw[<-cA] at c2 c3;have G:=hid (λh=>aa ((wd l 2:Nat):Int) |>.1 h);have k:=hid (λh=>uL (l:=l) h);have q:=hid (λh=>mW (l:=l) h);have z:=hid (λh=>mM (l:=l) h);have u:Hid (aj ((wd l 2:Nat):Int)=true->wd l 3<=8->qR l=decide (spL (wd l 2) (wd l 3)=l)):=hid λh1 h2=>by
  unfold qR;rw[h1,decide_eq_true h2];rfl
 have HR:=hid hr;have x0:=Bx.new w 126 #[.int .i64 0,.int .i64 0];have R:=hid x0;have E:=hid ((kqk w.heap.size w).alloc (kqa _) (.cells #[.int .i64 0,.int .i64 0] 126));have H:=(kzk w (.cells #[.int .i64 0,.int .i64 0] 126) ⟨b,g+2,none⟩ hb).trans c2;have O:=(kzk w (.cells #[.int .i64 0,.int .i64 0] 126) ⟨b,g+3,none⟩ hb).trans c3;have HL:=hid hn;obtain⟨x,hx⟩:=xq (wd l 2);obtain⟨y,hy⟩:=xq (wd l 3);rw[hx] at G k z u H;rw[hy] at k z u O;clear hx hy c2 c3 hr hn x0;by_cases Q:1000000<x
 .have a:=hid (q.out (k.out λh=>by have:=G.out h.1;omega));have d1:decide ((1000000:Int)<(x:Int))=true:=by rw[kqn];omega
  have d1n:decide (1000000<x)=true:=by rw[kqn];omega
  go_enter func260,ntmps260;go_wp2_with fail;exact kqo (v:=.tuple #[.agg #[.int .i64 0,.int .i64 0],.int .i64 50]) (cF results260 _ R.out rfl rfl) rfl ⟨by rw[a.out.1,a.out.2],E.out⟩
 have d1:decide ((1000000:Int)<(x:Int))=false:=by rw[kqc];omega
 have d1n:decide (1000000<x)=false:=by rw[kqc];omega
 by_cases Y:1000000<y
 .have a:=hid (q.out (k.out λh=>by have:=h.2;omega));have d2:decide ((1000000:Int)<(y:Int))=true:=by rw[kqn];omega
  have d2n:decide (1000000<y)=true:=by rw[kqn];omega
  clear Q;go_enter func260,ntmps260;go_wp2_with fail;exact kqo (v:=.tuple #[.agg #[.int .i64 0,.int .i64 0],.int .i64 50]) (cF results260 _ R.out rfl rfl) rfl ⟨by rw[a.out.1,a.out.2],E.out⟩
 have d2:decide ((1000000:Int)<(y:Int))=false:=by rw[kqc];omega
 have d2n:decide (1000000<y)=false:=by rw[kqc];omega
 have HC:=hid (λW=>xg x y W (by omega) (by omega));have HW:=hid (λW=>me x y W (by omega) (by omega));have w1:IntKind.i64.wrap (x:Int)=(x:Int):=kqs _ (by omega);have w2:IntKind.i64.wrap (y:Int)=(y:Int):=kqs _ (by omega);have Kc:=hid (qJ x y);clear Q Y;go_enter func260,ntmps260;go_wp2_with fail
 go_region_held3 (λX:World=>X.cell? ⟨b,g+2,none⟩=some (.int .u64 (x:Int))/\X.cell? ⟨b,g+3,none⟩=some (.int .u64 (y:Int))) (go_keep) (fail)
 go_wp2_with fail;obtain⟨F,i⟩:∃F,((w.alloc (.cells #[.int .i64 0,.int .i64 0] 126)).alloc (.cells #[.int .i64 (x:Int),.int .i64 (y:Int)] 126)).drew=F:=⟨_,rfl⟩;have X1:=hid (show Bx F w.heap.size 126 #[.int .i64 0,.int .i64 0] by rw[<-i];exact R.out.alloc _);have U:Bx F (w.heap.size+1) 126 #[.int .i64 (x:Int),.int .i64 (y:Int)]:=by rw[<-i];have:=Bx.new (w.alloc (.cells #[.int .i64 0,.int .i64 0] 126)) 126 #[.int .i64 (x:Int),.int .i64 (y:Int)];rw[kqm] at this;exact this
 have o:Below w.heap.size w F:=by rw[<-i];exact (E.out.alloc (by simp) _).drew
 have Ka:=hid (HR.out.up o o.size);have hz5:w.heap.size+1<F.heap.size:=U.lt;have I:=hid o;rw[i];have hH:=‹_/\_›;clear hH i o H O R;refine (HC.out _).mono ?_;rintro e w6 ⟨rfl,d⟩;have p:=hid (X1.out.up d X1.out.lt);have t:=U.up d U.lt;obtain⟨q0,q1,-,-,Z⟩:=t.c2;have P:=hid t;have C:=hid (I.out.trans (d.mono I.out.size));have V:=hid (Ka.out.up d d.size);clear U t d HC;by_cases n:jF x y=0
 .have B:aj (x:Int)=true/\y<=8:=by
   unfold jF at n;split at n
   .split at n
    .exact ⟨by assumption,by assumption⟩
    exact absurd n (by decide)
   exact absurd n (by decide)
  have r:=hid (u.out B.1 B.2);rw[n];clear n B;go_wp2_with fail;refine (HW.out _).mono ?_;rintro e S ⟨⟨A7,c7,rfl,j⟩,f⟩;have Eq:=hid (V.out.up f f.size);have M:=hid (p.out.up f p.out.lt);have J:=hid (P.out.up f P.out.lt);have K:=hid (C.out.trans (f.mono C.out.size));have Kb:=hid (show RdW S S.heap.size A7 (spL x y) from Rd.of_own j);clear j f q0 q1 Z;go_wp2_with fail;refine (Bh A7 (some ⟨b,g,none⟩) (spL x y) l 8 8 c7 c S.heap.size S Kc.out HL.out (by omega) Kb.out Eq.out (kqa _)).mono ?_;rintro e w8 ⟨rfl,m⟩;have s:=M.out.up m M.out.lt;have L:=hid s;have D:=J.out.up m J.out.lt;obtain⟨q0,q1,-,-,hg8⟩:=D.c2;obtain⟨r0,r1,f0,f1,Kd⟩:=s.c2;have N:=hid (K.out.trans (m.mono K.out.size));cases T:decide (spL x y=l)
  .rw[T] at r;have a:=hid (q.out r.out);clear T s D m;go_wp2_with fail;exact kqo (v:=.tuple #[.agg #[.int .i64 0,.int .i64 0],.int .i64 50]) (cF results260 _ ((L.out.set_ 0 _).set_ 1 _) rfl rfl) rfl ⟨by rw[a.out.1,a.out.2],(N.out.setCell (by simp) _).setCell (by simp) _⟩
  rw[T] at r;have a:=hid (z.out r.out);clear T s D m;go_wp2_with fail;exact kqo (v:=.tuple #[.agg #[.int .i64 (x:Int),.int .i64 (y:Int)],.int .i64 0]) (cF results260 _ ((L.out.set_ 0 _).set_ 1 _) rfl rfl) rfl ⟨by rw[a.out.1,a.out.2],(N.out.setCell (by simp) _).setCell (by simp) _⟩
 have a:=hid (q.out (k.out λh=>n (by unfold jF;rw[if_pos h.1,if_pos h.2])));have hne:(jF x y != 0)=true:=by rw[kqv];exact n
 obtain⟨r0,r1,f0,f1,Kd⟩:=p.out.c2;clear n;go_wp2_with fail;exact kqo (v:=.tuple #[.agg #[.int .i64 0,.int .i64 0],.int .i64 50]) (cF results260 _ ((p.out.set_ 0 _).set_ 1 _) rfl rfl) rfl ⟨by rw[a.out.1,a.out.2],(C.out.setCell (by simp) _).setCell (by simp) _⟩
def cpV (ws:List Nat) (a:Nat):Value:=if ly ws a=true then .agg #[.int .i64 ((wd ws (a+2):Nat):Int),.int .i64 ((wd ws (a+3):Nat):Int)] else .agg #[.int .i64 0,.int .i64 0]
theorem ug(h:a+8<=ws.length):(sp8 ws a).length=8:=by unfold sp8;rw[kq3,kzv];omega
theorem zR{w:World}{B:Nat}{A:Option Addr}(h:RdW w B A ws)(a:Nat):RdW w B (A.map (·.add a)) (sp8 ws a):=by unfold RdW sp8 at *;rw[l6 _ bt,pJ _ bt];exact (Rd.drop_ h a).take_ 8
theorem sB(A:Option Addr)(ws:List Nat)(c n k:Nat)(w:World)(hn:ws.length=n)(hm:n<=2048)(h256:256<=n)(hk:k<=1)(hc:n<=c)(F:RdW w w.heap.size A ws):
 Calls prog 210 #[.slice A n c,.int .i64 (k:Int)] w λe w'=>e=.returned (.tuple #[cpV ws (8*k),.bool (ly ws (8*k))])/\Below w.heap.size w w':=by
 subst hn;obtain⟨b,z,rfl,hb,-⟩:=RdW.at_ F (show 0<ws.length by omega);have J:=ug (ws:=ws) (a:=8*k) (by omega);have H:=λW (F:RdW W W.heap.size (some ⟨b,z,none⟩) ws)=>zR F (8*k);have o:=hid (λW (F:RdW W W.heap.size (some ⟨b,z,none⟩) ws)=>(zF (some ⟨b,z+8*k,none⟩) (sp8 ws (8*k)) (c-8*k) W J (by
  have:=H W F;simp only[kzy] at this;have e:(⟨b,z,none⟩:Addr).add (8*k)=⟨b,z+8*k,none⟩:=by unfold Addr.add;split<;>simp_all
  rw[e] at this;exact this)))
 have Q:=hid F;have U:=Bx.new w 126 #[.int .i64 0,.int .i64 0];have G:=hid U;have d:=hid ((kqk w.heap.size w).alloc (kqa _) (.cells #[.int .i64 0,.int .i64 0] 126));have N:wd (sp8 ws (8*k)) 2=wd ws (8*k+2):=ny (by omega);have O:wd (sp8 ws (8*k)) 3=wd ws (8*k+3):=ny (by omega);have C:ly ws (8*k)=(qR (sp8 ws (8*k))&&wd ws (8*k+2)==ws.length):=rfl;have k1:IntKind.i64.wrap ((8:Int)*(k:Int))=((8*k:Nat):Int):=by rw[kqs _ (by omega)];omega
 have k2:IntKind.i64.wrap (((8*k:Nat):Int)+8)=((8*k+8:Nat):Int):=by rw[kqs _ (by omega)];omega
 have k3:8*k+8<=c:=by omega
 have k4:8*k<=8*k+8:=by omega
 obtain⟨j,hj⟩:=xq (8*k);rw[hj] at o k1 k2 k3 k4 C N O |-;obtain⟨l,T⟩:=xq (sp8 ws j);rw[T] at o C N O;clear F U J H T;have m:∀r:Bool,ly ws j=r->Hid (cpV ws j=if r=true then .agg #[.int .i64 ((wd ws (j+2):Nat):Int),.int .i64 ((wd ws (j+3):Nat):Int)] else .agg #[.int .i64 0,.int .i64 0]):=λr h=>hid (by unfold cpV;rw[h]);have B:=hid (λh=>mW (l:=l) h);have i:=hid (λh=>mM (l:=l) h);rw[N,O] at i;have m:=hid m;have p:=hid C;obtain⟨x,S⟩:=xq (wd ws (j+2));obtain⟨y,hy⟩:=xq (wd ws (j+3));rw[S] at p m i;rw[hy] at m i;clear S hy N O C;cases D:qR l
 .have E:=B.out D;have g:ly ws j=false:=by rw[p.out,D];rfl
  have I:=m.out _ g;have u:=hid g;rw[E.1,E.2] at o;clear D E g B i p m;go_enter func210,ntmps210;go_wp2_with fail;refine (o.out _ (Q.out.up d.out d.out.size)).mono ?_;rintro e M ⟨rfl,f⟩;have q:=G.out.up f G.out.lt;obtain⟨Y,Z,V,X,R⟩:=q.c2;have K:=hid q;have t:=hid (d.out.trans (f.mono d.out.size));have L:w.heap.size<M.heap.size:=q.lt;clear q f;go_wp2_with fail;exact kqo (v:=.tuple #[.agg #[.int .i64 0,.int .i64 0],.bool false]) (cF results210 _ (((K.out.set_ 0 _).set_ 1 _).alloc _) rfl rfl) rfl ⟨by rw[I.out,u.out];rfl,((t.out.setCell (kqa _) _).setCell (kqa _) _).alloc (by simp;omega) _⟩
 have E:=i.out D;rw[E.1,E.2] at o;by_cases s:x=ws.length
 .have g:ly ws j=true:=by rw[p.out,D,s];simp
  have I:=m.out _ g;have u:=hid g;have d1:((x:Int) != (ws.length:Int))=false:=by rw[kqr];omega
  have P:(x != ws.length)=false:=by rw[kqr];exact s
  clear D E g B i p m s;go_enter func210,ntmps210;go_wp2_with fail;refine (o.out _ (Q.out.up d.out d.out.size)).mono ?_;rintro e M ⟨rfl,f⟩;have q:=G.out.up f G.out.lt;obtain⟨Y,Z,V,X,R⟩:=q.c2;have K:=hid q;have t:=hid (d.out.trans (f.mono d.out.size));have L:w.heap.size<M.heap.size:=q.lt;clear q f;go_wp2_with fail;exact kqo (v:=.tuple #[.agg #[.int .i64 (x:Int),.int .i64 (y:Int)],.bool true]) (cF results210 _ (((K.out.set_ 0 _).set_ 1 _).alloc _) rfl rfl) rfl ⟨by rw[I.out,u.out];rfl,((t.out.setCell (kqa _) _).setCell (kqa _) _).alloc (by simp;omega) _⟩
 have g:ly ws j=false:=by rw[p.out,D];simp[s]
 have I:=m.out _ g;have u:=hid g;have d1:((x:Int) != (ws.length:Int))=true:=by rw[kqv];omega
 have P:(x != ws.length)=true:=by rw[kqv];exact s
 clear D E g B i p m s;go_enter func210,ntmps210;go_wp2_with fail;refine (o.out _ (Q.out.up d.out d.out.size)).mono ?_;rintro e M ⟨rfl,f⟩;have q:=G.out.up f G.out.lt;obtain⟨Y,Z,V,X,R⟩:=q.c2;have K:=hid q;have t:=hid (d.out.trans (f.mono d.out.size));have L:w.heap.size<M.heap.size:=q.lt;clear q f;go_wp2_with fail;exact kqo (v:=.tuple #[.agg #[.int .i64 0,.int .i64 0],.bool false]) (cF results210 _ (((K.out.set_ 0 _).set_ 1 _).alloc _) rfl rfl) rfl ⟨by rw[I.out,u.out];rfl,((t.out.setCell (kqa _) _).setCell (kqa _) _).alloc (by simp;omega) _⟩
def jE (ws:List Nat):Int:=if aj (ws.length:Int)=true then (if (tyN ws).isSome=true then 0 else 50) else 8
def An (ws:List Nat) (e:Ending):Prop:=∃(a:Int) (b0 b1:Bool),e=.returned (.tuple #[.agg #[.int .i64 a,.int .i64 (((tyN ws).getD 0:Nat):Int)],.agg #[.bool b0,.bool b1],.int .i64 (jE ws)])
theorem cR{r:Tmp}(h:fn.results=#[.cell p 126,.cell q 127,.tmp r])(tmps:Array Value){g':Nat}{t':TypeId}{u0 u1:Value}(hb:Bx W g t #[v0,v1])(hb':Bx W g' t' #[u0,u1])(hp:tmps.getD p undef=.pointer (some ⟨g,0,none⟩))(hp':tmps.getD q undef=.pointer (some ⟨g',0,none⟩))(hq:tmps.getD r undef=u):
 (results fn tmps).run prog W=.ok (.tuple #[.agg #[v0,v1],.agg #[u0,u1],u]) W:=by obtain⟨b,c,-⟩:=hb.c2;obtain⟨d,a,-⟩:=hb'.c2;rw[kxp] at hp hp' hq;simp[results,h,hp,hp',hq,go_sem,b,c,d,a]
theorem uh(h:aj (ws.length:Int)=false):tyN ws=none/\jE ws=8:=by
 have b:∀a,ly ws a=false:=λa=>by
  cases c:ly ws a with
  | false=>rfl
  | true =>unfold ly at c;simp only[kqt,kqw] at c;have d:=((kI _).1 c.1).1;rw[ny (by omega),c.2,h] at d;cases d
 exact⟨by unfold tyN;rw[b,b];rfl,by unfold jE;rw[h];rfl⟩
theorem zS :jE ws=0↔aj (ws.length:Int)=true/\(tyN ws).isSome=true:=by
 unfold jE;split
 .split<;>simp_all
 simp_all
theorem r7(A:Option Addr)(ws:List Nat)(c n:Nat)(w:World)(hn:ws.length=n)(hm:n<=9223372036854775807)(hc:n<=c)(F:RdW w w.heap.size A ws):
 Calls prog 149 #[.slice A n c] w λe w'=>An ws e/\Below w.heap.size w w':=by
 subst hn;have O:=hid F;have k:=hid (λW=>ms A ws.length c W hm);have j:=hid (((kqk w.heap.size w).alloc (kqa _) (.cells #[.int .i64 0,.int .i64 0] 126)).alloc (by simp) (.cells #[.bool false,.bool false] 127));have Q:=(Bx.new w 126 #[.int .i64 0,.int .i64 0]).alloc (.cells #[.bool false,.bool false] 127);have M:=Bx.new (w.alloc (.cells #[.int .i64 0,.int .i64 0] 126)) 127 #[.bool false,.bool false];rw[kqm] at M;have J:=hid Q;have N:=hid M;clear Q M F;cases C:aj (ws.length:Int)
 .have f:=hid (uh C);rw[bI C] at k;clear C;go_enter func149,ntmps149;go_wp2_with fail;refine (k.out _).mono ?_;rintro e U ⟨rfl,rfl⟩;go_wp2_with fail;exact kqo (v:=.tuple #[.agg #[.int .i64 0,.int .i64 0],.agg #[.bool false,.bool false],.int .i64 8]) (cR results149 _ J.out N.out rfl rfl rfl) rfl ⟨⟨0,false,false,by rw[f.out.1,f.out.2];rfl⟩,j.out⟩
 have S:=(aa _).1 C;rw[aZ C] at k;have g:=hid (λW (F:RdW W W.heap.size A ws)=>(show Calls prog 210 #[.slice A ws.length c,.int .i64 0] W λe w'=>e=.returned (.tuple #[cpV ws 0,.bool (ly ws 0)])/\Below W.heap.size W w' from sB A ws c ws.length 0 W rfl (by omega) (by omega) (by omega) hc F));have d:=hid (λW (F:RdW W W.heap.size A ws)=>(show Calls prog 210 #[.slice A ws.length c,.int .i64 1] W λe w'=>e=.returned (.tuple #[cpV ws 8,.bool (ly ws 8)])/\Below W.heap.size W w' from sB A ws c ws.length 1 W rfl (by omega) (by omega) (by omega) hc F));have f:Hid (tyN ws=(if ly ws 0=true then some (wd ws 3) else if ly ws 8=true then some (wd ws 11) else none)/\jE ws=if (tyN ws).isSome=true then 0 else 50):=hid ⟨rfl,by unfold jE;rw[if_pos C]⟩;unfold cpV at g d;simp only[kxd,Nat.reduceAdd] at g d;obtain⟨t,G⟩:=xq (wd ws 2);obtain⟨E,u⟩:=xq (wd ws 3);obtain⟨P,H⟩:=xq (wd ws 10);obtain⟨T,B⟩:=xq (wd ws 11);rw[G,u] at g;rw[H,B] at d;rw[u,B] at f;clear C S G u H B;cases L:ly ws 0<;>cases K:ly ws 8
 all_goals
  rw[L] at g;rw[K] at d;rw[L,K] at f;simp only[if_true,kzh,if_false] at g d f;clear L K;go_enter func149,ntmps149;go_wp2_with fail;refine (k.out _).mono ?_;rintro e U ⟨rfl,rfl⟩;go_wp2_with fail;refine (g.out _ (O.out.up j.out j.out.size)).mono ?_;rintro e R ⟨rfl,r⟩;have y:=hid (J.out.up r J.out.lt);have z:=hid (N.out.up r N.out.lt);have l:=j.out.trans (r.mono j.out.size);clear r;go_wp2_with fail;have I:=l.size;have h:=hid (l.alloc I (.cells #[.int .i64 0,.int .i64 0] 126));have b:=hid (l.alloc I (.cells #[.int .i64 (t:Int),.int .i64 (E:Int)] 126));have hl0:=y.out.lt;have hl1:=z.out.lt;clear l
  first
   | refine (d.out _ (O.out.up h.out h.out.size)).mono ?_
   | refine (d.out _ (O.out.up b.out b.out.size)).mono ?_
  rintro e w3 ⟨rfl,a⟩
  first
   | (
    have i:=h.out.trans (a.mono h.out.size);have s:=(y.out.alloc (.cells #[.int .i64 0,.int .i64 0] 126)).up a (by simp;omega);have m:=(z.out.alloc (.cells #[.int .i64 0,.int .i64 0] 126)).up a (by simp;omega);have D:=(Bx.new R 126 #[.int .i64 0,.int .i64 0]).up a (by simp))
   | (
    have i:=b.out.trans (a.mono b.out.size);have s:=(y.out.alloc (.cells #[.int .i64 (t:Int),.int .i64 (E:Int)] 126)).up a (by simp;omega);have m:=(z.out.alloc (.cells #[.int .i64 (t:Int),.int .i64 (E:Int)] 126)).up a (by simp;omega);have D:=(Bx.new R 126 #[.int .i64 (t:Int),.int .i64 (E:Int)]).up a (by simp))
  obtain⟨p0,p1,f0,f1,hg0⟩:=s.c2;obtain⟨q0,q1,g0,g1,hg1⟩:=m.c2;obtain⟨r0,r1,-,-,hg2⟩:=D.c2;have o:=hid s;have p:=hid m;have q:=hid i;clear i a s m D h b;go_wp2_with fail
 all_goals
  first
   | exact kqo (v:=.tuple #[.agg #[.int .i64 0,.int .i64 0],.agg #[.bool false,.bool false],.int .i64 50]) (cR results149 _ (((((o.out.set_ 0 _).set_ 1 _).far (by simp) _).far (by simp) _).alloc _) (((((p.out.far (by simp) _).far (by simp) _).set_ 0 _).set_ 1 _).alloc _) rfl rfl rfl) rfl ⟨⟨0,false,false,by rw[f.out.2,f.out.1];rfl⟩,((((q.out.setCell (kqa _) _).setCell (kqa _) _).setCell (kz4 _) _).setCell (kz4 _) _).alloc (by simp;omega) _⟩
   | exact kqo (v:=.tuple #[.agg #[.int .i64 (P:Int),.int .i64 (T:Int)],.agg #[.bool false,.bool true],.int .i64 0]) (cR results149 _ (((((o.out.set_ 0 _).set_ 1 _).far (by simp) _).far (by simp) _).alloc _) (((((p.out.far (by simp) _).far (by simp) _).set_ 0 _).set_ 1 _).alloc _) rfl rfl rfl) rfl ⟨⟨P,false,true,by rw[f.out.2,f.out.1];rfl⟩,((((q.out.setCell (kqa _) _).setCell (kqa _) _).setCell (kz4 _) _).setCell (kz4 _) _).alloc (by simp;omega) _⟩
   | exact kqo (v:=.tuple #[.agg #[.int .i64 (t:Int),.int .i64 (E:Int)],.agg #[.bool true,.bool false],.int .i64 0]) (cR results149 _ (((((o.out.set_ 0 _).set_ 1 _).far (by simp) _).far (by simp) _).alloc _) (((((p.out.far (by simp) _).far (by simp) _).set_ 0 _).set_ 1 _).alloc _) rfl rfl rfl) rfl ⟨⟨t,true,false,by rw[f.out.2,f.out.1];rfl⟩,((((q.out.setCell (kqa _) _).setCell (kqa _) _).setCell (kz4 _) _).setCell (kz4 _) _).alloc (by simp;omega) _⟩
   | exact kqo (v:=.tuple #[.agg #[.int .i64 (t:Int),.int .i64 (E:Int)],.agg #[.bool true,.bool true],.int .i64 0]) (cR results149 _ (((((o.out.set_ 0 _).set_ 1 _).far (by simp) _).far (by simp) _).alloc _) (((((p.out.far (by simp) _).far (by simp) _).set_ 0 _).set_ 1 _).alloc _) rfl rfl rfl) rfl ⟨⟨t,true,true,by rw[f.out.2,f.out.1];rfl⟩,((((q.out.setCell (kqa _) _).setCell (kqa _) _).setCell (kz4 _) _).setCell (kz4 _) _).alloc (by simp;omega) _⟩
end Go.Proofs.YtpcajamacpbjcaaGreat
