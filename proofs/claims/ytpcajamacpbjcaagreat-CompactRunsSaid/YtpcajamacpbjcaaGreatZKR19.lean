import Derived.Test.YtpcajamacpbjcaaGreatZKStg1
set_option maxHeartbeats 16000000
set_option maxRecDepth 100000
set_option linter.all false
namespace Go.Proofs.YtpcajamacpbjcaaGreat
open Go.RowKit
variable {ops:Array Oper}{fn:Func}{O l:List Bk}{G:List Nat}{L:List Ty}{B H a g id k t v:Nat}{o:Oper}{A:Option Addr}{P:Program}{p q:Tmp}{u v0 v1:Value}{W w w':World}
open Go.Proofs.Tryz
theorem sH(A B:Option Addr)(a b:List Nat)(n m c d H:Nat)(w:World)(i:a.length=n)(N:b.length=m)(h1:n<=1000000)(g:RdW w H A a)(h:RdW w H B b)(f:H<=w.heap.size):
 Calls prog 79 #[.slice A n c,.slice B m d] w λe j=>e=.returned (.bool (decide (a=b)))/\Below w.heap.size w j:=by
 subst i N;obtain⟨I,J⟩:=yq0 (g.more f) (h.more f);clear g h f;by_cases j:a.length=b.length
 .have C:Hid (a.take a.length=b.take a.length->decide (a=b)=true):=y5 λh=>DO j h;have u:Hid (∀k (h:k<a.length) (f:k<b.length),a[k]≠b[k]->decide (a=b)=false):=y5 λk h f g=>Jt h f g;obtain⟨q,f⟩:=xq (decide (a=b));rw[f] at C u |-;have v:((a.length:Int) != (b.length:Int))=false:=(by rw[kqt];omega);have t:(a.length != b.length)=false:=by rw[kqt];exact j
  have K:=y5 j;clear f j;go_enter func79,ntmps79;go_wp2_with fail;go_loopw [5] (λi wr=>∃k:Nat,k<=a.length/\i=.int .i64 k/\Hid (a.take k=b.take k)/\Below w.heap.size w wr) (λi _=>a.length-(intOf i).toNat)
  case atStart=>exact⟨0,kqv _,rfl,rfl,kqe _ _⟩
  obtain⟨k,hk,rfl,z,s⟩:=hrel;by_cases l:k<a.length
  .have f:k<b.length:=by have:=K.out;omega
   obtain⟨D,F,rfl,hg1,O⟩:=RdW.at_ (Rd.below I.out s) l;obtain⟨E,G,rfl,hg2,P⟩:=RdW.at_ (Rd.below J.out s) f;obtain⟨i,g⟩:=yq0 (λh=>Bf l f z.out h) (u.out k l f);obtain⟨x,o⟩:=xq (a[k]);obtain⟨y,p⟩:=xq (b[k]);rw[o] at O i g;rw[p] at P i g;have hk1:(k:Int)<(a.length:Int):=(by omega);have hk2:(k:Int)<(b.length:Int):=(by omega);have hk0:(0:Int)<=(k:Int):=(by omega);clear o p;have o:((x==y)=true/\((x:Int) != (y:Int))=false/\(x != y)=false)\/((x==y)=false/\((x:Int) != (y:Int))=true/\(x != y)=true):=by
    by_cases e:x=y
    .left;subst e;simp
    right;exact⟨by rw[kqc];exact e,by rw[kqx];omega,by rw[kqx];exact e⟩
   rcases o with⟨r,L,M⟩|⟨r,L,M⟩
   .have p:=y5 (i.out (by rw[kqw] at r;exact r));go_wp2_with fail
    first
     | (go_region_held3 (λX:World=>X.cell? ⟨D,F+k,none⟩=some (.int .u64 (x:Int))/\X.cell? ⟨E,G+k,none⟩=some (.int .u64 (y:Int))) (go_keep) (fail))
     | fail
    go_wp2;go_roundw;exact⟨k+1,by omega,by go_num,p.out,s.drew⟩;simp[intOf];omega
   have p:=y5 (g.out (by intro h;rw[h] at r;simp at r));go_wp2_with fail
   first
    | (go_region_held3 (λX:World=>X.cell? ⟨D,F+k,none⟩=some (.int .u64 (x:Int))/\X.cell? ⟨E,G+k,none⟩=some (.int .u64 (y:Int))) (go_keep) (fail))
    | fail
   go_wp2;go_ret;exact⟨by rw[p.out];rfl,s.drew⟩
  have p:=y5 (C.out (by have:=z.out;rwa [show k=a.length by omega] at this));go_wp2;go_ret;exact⟨by rw[p.out];rfl,s⟩
 have u:=y5 (DC j);have v:((a.length:Int) != (b.length:Int))=true:=(by rw[kqx];omega);have t:(a.length != b.length)=true:=by rw[kqx];exact j
 clear j;go_enter func79,ntmps79;go_wp2;go_ret;exact⟨by rw[u.out];rfl,kqe _ _⟩
def sp7 (n t:Nat):List Nat:=[32777959566500194,1,n,t,0,0,0]
def spL (n t:Nat):List Nat:=sp7 n t++[aR 14695981039346656037 (sp7 n t)]
theorem Cc(n t:Nat):(spL n t).length=8:=rfl
def qy (l:List Nat):Bool:=am ((wd l 2:Nat):Int)&&(decide (wd l 3<=8)&&decide (spL (wd l 2) (wd l 3)=l))
def kC (l:List Nat):Int:=if qy l=true then 0 else 50
def spV (l:List Nat):Value:=if qy l=true then .agg #[.int .i64 ((wd l 2:Nat):Int),.int .i64 ((wd l 3:Nat):Int)] else .agg #[.int .i64 0,.int .i64 0]
def sp8 (G:List Nat) (a:Nat):List Nat:=(G.drop a).take 8
theorem nr{i:Nat}(h:i<8):wd (sp8 G a) i=wd G (a+i):=by unfold sp8 wd;rw[kk4,if_pos h,kjh]
def lF (G:List Nat) (a:Nat):Bool:=qy (sp8 G a)&&wd G (a+2)==G.length
def tyN (G:List Nat):Option Nat:=if lF G 0=true then some (wd G 3) else if lF G 8=true then some (wd G 11) else none
theorem lj(l:List Nat):qy l=true↔am ((wd l 2:Nat):Int)=true/\wd l 3<=8/\spL (wd l 2) (wd l 3)=l:=by unfold qy;simp
theorem vM(h:tyN G=some t):t<=8:=by
 unfold tyN at h;split at h
 .rename_i h1;simp only[Option.some.injEq] at h;unfold lF at h1;rw[kqs] at h1;have:=((lj _).1 h1.1).2.1;rw[nr (by omega)] at this;simp at this;omega
 split at h
 .rename_i h1;simp only[Option.some.injEq] at h;unfold lF at h1;rw[kqs] at h1;have:=((lj _).1 h1.1).2.1;rw[nr (by omega)] at this;simp at this;omega
 cases h
def jB (n t:Nat):Int:=if am (n:Int)=true then (if t<=8 then 0 else 8) else 8
theorem yE(n t:Nat)(w:World)(hn:n<=1000000)(ht:t<=1000000):
 Calls prog 286 #[.agg #[.int .i64 (n:Int),.int .i64 (t:Int)]] w λe a=>e=.returned (.int .i64 (jB n t))/\Below w.heap.size w a:=by
 obtain⟨d,b⟩:=yq0 ((kqe w.heap.size w).alloc (kqa _) (.cells #[.int .i64 (n:Int),.int .i64 (t:Int)] 126)) (λW=>sU n W (by omega));have d1:decide ((t:Int)<0)=false:=by rw[kqb];omega
 cases a:am (n:Int)
 .have c:=y5 (show jB n t=8 by simp[jB,a]);rw[a] at b;clear a;go_enter func286,ntmps286;go_wp2_with fail;refine (b.out _).mono ?_;rintro e h ⟨rfl,rfl⟩;go_wp2;go_ret;exact⟨by rw[c.out];rfl,d.out⟩
 rw[a] at b;by_cases g:t<=8
 .have c:=y5 (show jB n t=0 by simp[jB,a,g]);have i:decide ((8:Int)<(t:Int))=false:=(by rw[kqb];omega);have f:decide (8<t)=false:=(by rw[kqb];omega);clear a;go_enter func286,ntmps286;go_wp2_with fail;refine (b.out _).mono ?_;rintro e h ⟨rfl,rfl⟩;go_wp2;go_ret;exact⟨by rw[c.out];rfl,d.out⟩
 have c:=y5 (show jB n t=8 by simp[jB,a,g]);have i:decide ((8:Int)<(t:Int))=true:=(by rw[kqh];omega);have f:decide (8<t)=true:=(by rw[kqh];omega);clear a;go_enter func286,ntmps286;go_wp2_with fail;refine (b.out _).mono ?_;rintro e h ⟨rfl,rfl⟩;go_wp2;go_ret;exact⟨by rw[c.out];rfl,d.out⟩
theorem zo:(prog.info? 53).map (λi=>(i.zero,i.size,i.bytes))=some (some (.int .u64 0),1,8):=by kernel_rfl
theorem sR(n t:Nat)(w:World)(hn:n<=1000000)(ht:t<=1000000):
 Calls prog 109 #[.agg #[.int .i64 (n:Int),.int .i64 (t:Int)]] w λe a=>(∃A c,e=.returned (.slice A 8 c)/\a.ownsRow w.heap.size 53 1 (.slice A 8 c) 8 ((spL n t).flatMap ap))/\Below w.heap.size w a:=by
 have p:=y5 (λA W (a:RdW W W.heap.size A (sp7 n t))=>pV A (sp7 n t) 7 7 W rfl (by omega) a (λx a=>by
  simp only[sp7,kq0,kzm,or_false] at a;omega))
 have o:=y5 (show (spL n t).flatMap ap=[.int .u64 32777959566500194,.int .u64 1,.int .u64 (n:Int),.int .u64 (t:Int),.int .u64 0,.int .u64 0,.int .u64 0]++[.int .u64 ((aR 14695981039346656037 (sp7 n t):Nat):Int)] by
  unfold spL;rw[ce];rfl)
 obtain⟨q,a⟩:=xq (aR 14695981039346656037 (sp7 n t));rw[a] at p o;have j:=y5 ((kqe w.heap.size w).alloc (kqa _) (.cells #[.int .i64 (n:Int),.int .i64 (t:Int)] 126));have w1:IntKind.u64.wrap (n:Int)=(n:Int):=kzi _ (by omega);have w2:IntKind.u64.wrap (t:Int)=(t:Int):=kzi _ (by omega);clear a;obtain⟨v,f,a,b,d⟩:=kzh zo;obtain⟨s,k,l,m⟩:=yq2 f a b d;clear f a b d;go_enter func109,ntmps109;go_wp2_with fail;obtain⟨i,g⟩:∃i,w.alloc (.cells #[.int .i64 (n:Int),.int .i64 (t:Int)] 126)=i:=⟨_,rfl⟩;have b:i.heap.size=w.heap.size+1:=by rw[<-g,kqm]
 rw[g] at j |-;have h:=j.out.size;have a:=a8 (n:=7) (sz:=1) i 53 #[.int .u64 32777959566500194,.int .u64 1,.int .u64 (n:Int),.int .u64 (t:Int),.int .u64 0,.int .u64 0,.int .u64 0] h rfl (by unfold maxLen;omega);rw[b] at a;clear b;refine (p.out _ _ (show Rd _ _ _ _ from Rd.of_own a)).mono ?_;rintro e w5 ⟨rfl,f⟩;have b:=ag a f (kqa _);have d:=y5 ((j.out.alloc h (.cells #[.int .u64 32777959566500194,.int .u64 1,.int .u64 (n:Int),.int .u64 (t:Int),.int .u64 0,.int .u64 0,.int .u64 0] 53)).trans (f.mono (by simp;omega)));clear g a f;go_wp2_with (at_builtin;refine kq7 _ rfl _ _ 22 rfl w.heap.size 53 v _ 1 8 underlying22 s.out k.out l.out m.out rfl (by decide) _ _ _ rfl (b.alloc _) ⟨_,0,none⟩ 1 1 [.int .u64 (q:Int)] rfl rfl (bc _ _ _) (by simp[Value.oneCell']) (by unfold maxLen;omega) (by omega) (cr d.out.size) ?_;intro v1 w6 a g _;have f:=ay d.out d.out.size b g);obtain⟨r,u,rfl⟩:=aw a;go_ret;exact⟨⟨r,u,rfl,by rw[o.out];exact a⟩,f⟩
theorem cN(h:fn.results=#[.cell p 126,.tmp q])(a:Array Value){t:TypeId}(f:Bx W g t #[v0,v1])(b:a.getD p undef=.pointer (some ⟨g,0,none⟩))(c:a.getD q undef=u):
 (results fn a).run prog W=.ok (.tuple #[.agg #[v0,v1],u]) W:=by obtain⟨d,e,-⟩:=f.c2;rw[kxy] at b c;simp[results,h,b,c,go_sem,d,e]
theorem ny{l:List Nat}(h:qy l=false):spV l=.agg #[.int .i64 0,.int .i64 0]/\kC l=50:=by simp[spV,kC,h]
theorem mD{l:List Nat}(h:qy l=true):spV l=.agg #[.int .i64 ((wd l 2:Nat):Int),.int .i64 ((wd l 3:Nat):Int)]/\kC l=0:=by simp[spV,kC,h]
theorem uD{l:List Nat}(h:¬ (am ((wd l 2:Nat):Int)=true/\wd l 3<=8)):qy l=false:=by
 cases a:qy l with
 | false=>rfl
 | true=>exact absurd ⟨((lj l).1 a).1,((lj l).1 a).2.1⟩ h
theorem zl(A:Option Addr)(l:List Nat)(c:Nat)(w:World)(g:l.length=8)(a:RdW w w.heap.size A l):
 Calls prog 260 #[.slice A 8 c] w λe b=>e=.returned (.tuple #[spV l,.int .i64 (kC l)])/\Below w.heap.size w b:=by
 obtain⟨b,i,rfl,S,c2⟩:=RdW.at_ a (show 2<l.length by omega);obtain⟨b',off',e',-,d⟩:=RdW.at_ a (show 3<l.length by omega);cases e';rw[<-bY] at c2 d;obtain⟨C,f,m,r⟩:=yq2 (λh=>ae ((wd l 2:Nat):Int) |>.1 h) (λh=>uD (l:=l) h) (λh=>ny (l:=l) h) (λh=>mD (l:=l) h);have q:Hid (am ((wd l 2:Nat):Int)=true->wd l 3<=8->qy l=decide (spL (wd l 2) (wd l 3)=l)):=y5 λj k=>by
  unfold qy;rw[j,decide_eq_true k];rfl
 have Y:=y5 a;have t:=Bx.new w 126 #[.int .i64 0,.int .i64 0];obtain⟨n,o⟩:=yq0 t ((kqe w.heap.size w).alloc (kqa _) (.cells #[.int .i64 0,.int .i64 0] 126));have j:=(kzc w (.cells #[.int .i64 0,.int .i64 0] 126) ⟨b,i+2,none⟩ S).trans c2;have k:=(kzc w (.cells #[.int .i64 0,.int .i64 0] 126) ⟨b,i+3,none⟩ S).trans d;have V:=y5 g;obtain⟨x,p⟩:=xq (wd l 2);obtain⟨y,s⟩:=xq (wd l 3);rw[p] at C f r q j;rw[s] at f r q k;clear p s c2 d a g t;by_cases d:1000000<x
 .have a:=y5 (m.out (f.out λh=>by have:=C.out h.1;omega));have p:decide ((1000000:Int)<(x:Int))=true:=(by rw[kqh];omega);have g:decide (1000000<x)=true:=(by rw[kqh];omega);go_enter func260,ntmps260;go_wp2_with fail;exact kqq (v:=.tuple #[.agg #[.int .i64 0,.int .i64 0],.int .i64 50]) (cN results260 _ n.out rfl rfl) rfl ⟨by rw[a.out.1,a.out.2],o.out⟩
 have p:decide ((1000000:Int)<(x:Int))=false:=(by rw[kqb];omega);have g:decide (1000000<x)=false:=(by rw[kqb];omega);by_cases p:1000000<y
 .have a:=y5 (m.out (f.out λh=>by have:=h.2;omega));have s:decide ((1000000:Int)<(y:Int))=true:=(by rw[kqh];omega);have g:decide (1000000<y)=true:=(by rw[kqh];omega);clear d;go_enter func260,ntmps260;go_wp2_with fail;exact kqq (v:=.tuple #[.agg #[.int .i64 0,.int .i64 0],.int .i64 50]) (cN results260 _ n.out rfl rfl) rfl ⟨by rw[a.out.1,a.out.2],o.out⟩
 have s:decide ((1000000:Int)<(y:Int))=false:=(by rw[kqb];omega);have g:decide (1000000<y)=false:=(by rw[kqb];omega);obtain⟨z,Z⟩:=yq0 (λW=>yE x y W (by omega) (by omega)) (λW=>sR x y W (by omega) (by omega));have w1:IntKind.i64.wrap (x:Int)=(x:Int):=kqo _ (by omega);have w2:IntKind.i64.wrap (y:Int)=(y:Int):=kqo _ (by omega);have N:=y5 (Cc x y);clear d p;go_enter func260,ntmps260;go_wp2_with fail
 go_region_held3 (λX:World=>X.cell? ⟨b,i+2,none⟩=some (.int .u64 (x:Int))/\X.cell? ⟨b,i+3,none⟩=some (.int .u64 (y:Int))) (go_keep) (fail)
 go_wp2_with fail;obtain⟨t,d⟩:∃t,((w.alloc (.cells #[.int .i64 0,.int .i64 0] 126)).alloc (.cells #[.int .i64 (x:Int),.int .i64 (y:Int)] 126)).drew=t:=⟨_,rfl⟩;have R:=y5 (show Bx t w.heap.size 126 #[.int .i64 0,.int .i64 0] by rw[<-d];exact n.out.alloc _);have s:Bx t (w.heap.size+1) 126 #[.int .i64 (x:Int),.int .i64 (y:Int)]:=by rw[<-d];have:=Bx.new (w.alloc (.cells #[.int .i64 0,.int .i64 0] 126)) 126 #[.int .i64 (x:Int),.int .i64 (y:Int)];rw[kqm] at this;exact this
 have g:Below w.heap.size w t:=by rw[<-d];exact (o.out.alloc (by simp) _).drew
 have K:=y5 (Y.out.up g g.size);have hz5:w.heap.size+1<t.heap.size:=s.lt;have u:=y5 g;rw[d];have p:=‹_/\_›;clear p d g j k n;refine (z.out _).mono ?_;rintro e w6 ⟨rfl,d⟩;have n:=y5 (R.out.up d R.out.lt);have g:=s.up d s.lt;obtain⟨T,U,-,-,O⟩:=g.c2;have F:=y5 g;have p:=yq7 u d;have L:=y5 (K.out.up d d.size);clear s g d z;by_cases j:jB x y=0
 .have d:am (x:Int)=true/\y<=8:=by
   unfold jB at j;split at j
   .split at j
    .exact ⟨by assumption,by assumption⟩
    exact absurd j (by decide)
   exact absurd j (by decide)
  have k:=y5 (q.out d.1 d.2);rw[j];clear j d;go_wp2_with fail;refine (Z.out _).mono ?_;rintro e I ⟨⟨Q,W,rfl,g⟩,d⟩;obtain⟨M,D,G⟩:=yq1 (L.out.up d d.size) (n.out.up d n.out.lt) (F.out.up d F.out.lt);have z:=yq7 p d;have J:=y5 (show RdW I I.heap.size Q (spL x y) from Rd.of_own g);clear g d T U O;go_wp2_with fail;refine (sH Q (some ⟨b,i,none⟩) (spL x y) l 8 8 W c I.heap.size I N.out V.out (by omega) J.out M.out (kqa _)).mono ?_;rintro e w8 ⟨rfl,d⟩;have g:=D.out.up d D.out.lt;have E:=y5 g;have s:=G.out.up d G.out.lt;obtain⟨T,U,-,-,hg8⟩:=s.c2;obtain⟨r0,r1,X,f1,P⟩:=g.c2;have B:=yq7 z d;cases H:decide (spL x y=l)
  .rw[H] at k;have a:=y5 (m.out k.out);clear H g s d;go_wp2_with fail;exact kqq (v:=.tuple #[.agg #[.int .i64 0,.int .i64 0],.int .i64 50]) (cN results260 _ ((E.out.set_ 0 _).set_ 1 _) rfl rfl) rfl ⟨by rw[a.out.1,a.out.2],(B.out.setCell (by simp) _).setCell (by simp) _⟩
  rw[H] at k;have a:=y5 (r.out k.out);clear H g s d;go_wp2_with fail;exact kqq (v:=.tuple #[.agg #[.int .i64 (x:Int),.int .i64 (y:Int)],.int .i64 0]) (cN results260 _ ((E.out.set_ 0 _).set_ 1 _) rfl rfl) rfl ⟨by rw[a.out.1,a.out.2],(B.out.setCell (by simp) _).setCell (by simp) _⟩
 have a:=y5 (m.out (f.out λh=>j (by unfold jB;rw[if_pos h.1,if_pos h.2])));have hne:(jB x y != 0)=true:=by rw[kqx];exact j
 obtain⟨r0,r1,X,f1,P⟩:=n.out.c2;clear j;go_wp2_with fail;exact kqq (v:=.tuple #[.agg #[.int .i64 0,.int .i64 0],.int .i64 50]) (cN results260 _ ((n.out.set_ 0 _).set_ 1 _) rfl rfl) rfl ⟨by rw[a.out.1,a.out.2],(p.out.setCell (by simp) _).setCell (by simp) _⟩
def cpV (G:List Nat) (a:Nat):Value:=if lF G a=true then .agg #[.int .i64 ((wd G (a+2):Nat):Int),.int .i64 ((wd G (a+3):Nat):Int)] else .agg #[.int .i64 0,.int .i64 0]
theorem tz(h:a+8<=G.length):(sp8 G a).length=8:=by unfold sp8;rw[kq6,kz2];omega
theorem AC(h:RdW w B A G)(a:Nat):RdW w B (A.map (·.add a)) (sp8 G a):=by unfold RdW sp8 at *;rw[wM _ cA,yH _ cA];exact (Rd.drop_ h a).take_ 8
theorem rU(A:Option Addr)(G:List Nat)(c n k:Nat)(w:World)(b:G.length=n)(hm:n<=2048)(h256:256<=n)(hk:k<=1)(hc:n<=c)(f:RdW w w.heap.size A G):
 Calls prog 210 #[.slice A n c,.int .i64 (k:Int)] w λe d=>e=.returned (.tuple #[cpV G (8*k),.bool (lF G (8*k))])/\Below w.heap.size w d:=by
 subst b;obtain⟨b,t,rfl,hb,-⟩:=RdW.at_ f (show 0<G.length by omega);have h:=tz (G:=G) (a:=8*k) (by omega);have i:=λW (f:RdW W W.heap.size (some ⟨b,t,none⟩) G)=>AC f (8*k);have o:=y5 (λW (f:RdW W W.heap.size (some ⟨b,t,none⟩) G)=>(zl (some ⟨b,t+8*k,none⟩) (sp8 G (8*k)) (c-8*k) W h (by
  have:=i W f;simp only[kzs] at this;have e:(⟨b,t,none⟩:Addr).add (8*k)=⟨b,t+8*k,none⟩:=by unfold Addr.add;split<;>simp_all
  rw[e] at this;exact this)))
 have I:=y5 f;have r:=Bx.new w 126 #[.int .i64 0,.int .i64 0];obtain⟨C,d⟩:=yq0 r ((kqe w.heap.size w).alloc (kqa _) (.cells #[.int .i64 0,.int .i64 0] 126));have p:wd (sp8 G (8*k)) 2=wd G (8*k+2):=nr (by omega);have q:wd (sp8 G (8*k)) 3=wd G (8*k+3):=nr (by omega);have g:lF G (8*k)=(qy (sp8 G (8*k))&&wd G (8*k+2)==G.length):=rfl;have R:IntKind.i64.wrap ((8:Int)*(k:Int))=((8*k:Nat):Int):=by rw[kqo _ (by omega)];omega
 have S:IntKind.i64.wrap (((8*k:Nat):Int)+8)=((8*k+8:Nat):Int):=by rw[kqo _ (by omega)];omega
 have T:8*k+8<=c:=(by omega);have U:8*k<=8*k+8:=(by omega);obtain⟨j,Q⟩:=xq (8*k);rw[Q] at o R S T U g p q |-;obtain⟨l,m⟩:=xq (sp8 G j);rw[m] at o g p q;clear f r h i m;have i:∀r:Bool,lF G j=r->Hid (cpV G j=if r=true then .agg #[.int .i64 ((wd G (j+2):Nat):Int),.int .i64 ((wd G (j+3):Nat):Int)] else .agg #[.int .i64 0,.int .i64 0]):=λr h=>y5 (by unfold cpV;rw[h]);obtain⟨u,f⟩:=yq0 (λh=>ny (l:=l) h) (λh=>mD (l:=l) h);rw[p,q] at f;obtain⟨i,m⟩:=yq0 i g;obtain⟨x,h⟩:=xq (wd G (j+2));obtain⟨y,r⟩:=xq (wd G (j+3));rw[h] at m i f;rw[r] at i f;clear h r p q g;cases B:qy l
 .have z:=u.out B;have h:lF G j=false:=by rw[m.out,B];rfl
  have D:=i.out _ h;have s:=y5 h;rw[z.1,z.2] at o;clear B z h u f m i;go_enter func210,ntmps210;go_wp2_with fail;refine (o.out _ (yq8 I d)).mono ?_;rintro e H ⟨rfl,g⟩;have p:=C.out.up g C.out.lt;obtain⟨N,O,K,L,M⟩:=p.c2;have E:=y5 p;have r:=yq7 d g;have F:w.heap.size<H.heap.size:=p.lt;clear p g;go_wp2_with fail;exact kqq (v:=.tuple #[.agg #[.int .i64 0,.int .i64 0],.bool false]) (cN results210 _ (((E.out.set_ 0 _).set_ 1 _).alloc _) rfl rfl) rfl ⟨by rw[D.out,s.out];rfl,((r.out.setCell (kqa _) _).setCell (kqa _) _).alloc (by simp;omega) _⟩
 have z:=f.out B;rw[z.1,z.2] at o;by_cases q:x=G.length
 .have h:lF G j=true:=by rw[m.out,B,q];simp
  have D:=i.out _ h;have s:=y5 h;have P:((x:Int) != (G.length:Int))=false:=(by rw[kqt];omega);have J:(x != G.length)=false:=by rw[kqt];exact q
  clear B z h u f m i q;go_enter func210,ntmps210;go_wp2_with fail;refine (o.out _ (yq8 I d)).mono ?_;rintro e H ⟨rfl,g⟩;have p:=C.out.up g C.out.lt;obtain⟨N,O,K,L,M⟩:=p.c2;have E:=y5 p;have r:=yq7 d g;have F:w.heap.size<H.heap.size:=p.lt;clear p g;go_wp2_with fail;exact kqq (v:=.tuple #[.agg #[.int .i64 (x:Int),.int .i64 (y:Int)],.bool true]) (cN results210 _ (((E.out.set_ 0 _).set_ 1 _).alloc _) rfl rfl) rfl ⟨by rw[D.out,s.out];rfl,((r.out.setCell (kqa _) _).setCell (kqa _) _).alloc (by simp;omega) _⟩
 have h:lF G j=false:=by rw[m.out,B];simp[q]
 have D:=i.out _ h;have s:=y5 h;have P:((x:Int) != (G.length:Int))=true:=(by rw[kqx];omega);have J:(x != G.length)=true:=by rw[kqx];exact q
 clear B z h u f m i q;go_enter func210,ntmps210;go_wp2_with fail;refine (o.out _ (yq8 I d)).mono ?_;rintro e H ⟨rfl,g⟩;have p:=C.out.up g C.out.lt;obtain⟨N,O,K,L,M⟩:=p.c2;have E:=y5 p;have r:=yq7 d g;have F:w.heap.size<H.heap.size:=p.lt;clear p g;go_wp2_with fail;exact kqq (v:=.tuple #[.agg #[.int .i64 0,.int .i64 0],.bool false]) (cN results210 _ (((E.out.set_ 0 _).set_ 1 _).alloc _) rfl rfl) rfl ⟨by rw[D.out,s.out];rfl,((r.out.setCell (kqa _) _).setCell (kqa _) _).alloc (by simp;omega) _⟩
def jJ (G:List Nat):Int:=if am (G.length:Int)=true then (if (tyN G).isSome=true then 0 else 50) else 8
def C2 (G:List Nat) (e:Ending):Prop:=∃(a:Int) (b0 b1:Bool),e=.returned (.tuple #[.agg #[.int .i64 a,.int .i64 (((tyN G).getD 0:Nat):Int)],.agg #[.bool b0,.bool b1],.int .i64 (jJ G)])
theorem dd{r:Tmp}(h:fn.results=#[.cell p 126,.cell q 127,.tmp r])(a:Array Value){g':Nat}{t t':TypeId}{u0 u1:Value}(l:Bx W g t #[v0,v1])(c:Bx W g' t' #[u0,u1])(d:a.getD p undef=.pointer (some ⟨g,0,none⟩))(b:a.getD q undef=.pointer (some ⟨g',0,none⟩))(e:a.getD r undef=u):
 (results fn a).run prog W=.ok (.tuple #[.agg #[v0,v1],.agg #[u0,u1],u]) W:=by obtain⟨f,i,-⟩:=l.c2;obtain⟨j,k,-⟩:=c.c2;rw[kxy] at d b e;simp[results,h,d,b,e,go_sem,f,i,j,k]
theorem ti(h:am (G.length:Int)=false):tyN G=none/\jJ G=8:=by
 have b:∀a,lF G a=false:=λa=>by
  cases c:lF G a with
  | false=>rfl
  | true =>unfold lF at c;simp only[kqs,kqw] at c;have a:=((lj _).1 c.1).1;rw[nr (by omega),c.2,h] at a;cases a
 exact⟨by unfold tyN;rw[b,b];rfl,by unfold jJ;rw[h];rfl⟩
theorem BE :jJ G=0↔am (G.length:Int)=true/\(tyN G).isSome=true:=by
 unfold jJ;split
 .split<;>simp_all
 simp_all
theorem sI(A:Option Addr)(G:List Nat)(c n:Nat)(w:World)(a:G.length=n)(K:n<=9223372036854775807)(H:n<=c)(b:RdW w w.heap.size A G):
 Calls prog 149 #[.slice A n c] w λe i=>C2 G e/\Below w.heap.size w i:=by
 subst a;obtain⟨B,l,h⟩:=yq1 b (λW=>fu A G.length c W K) (((kqe w.heap.size w).alloc (kqa _) (.cells #[.int .i64 0,.int .i64 0] 126)).alloc (by simp) (.cells #[.bool false,.bool false] 127));have d:=(Bx.new w 126 #[.int .i64 0,.int .i64 0]).alloc (.cells #[.bool false,.bool false] 127);have a:=Bx.new (w.alloc (.cells #[.int .i64 0,.int .i64 0] 126)) 127 #[.bool false,.bool false];rw[kqm] at a;obtain⟨C,D⟩:=yq0 d a;clear d a b;cases a:am (G.length:Int)
 .have f:=y5 (ti a);rw[bQ a] at l;clear a;go_enter func149,ntmps149;go_wp2_with fail;refine (l.out _).mono ?_;rintro e L ⟨rfl,rfl⟩;go_wp2_with fail;exact kqq (v:=.tuple #[.agg #[.int .i64 0,.int .i64 0],.agg #[.bool false,.bool false],.int .i64 8]) (dd results149 _ C.out D.out rfl rfl rfl) rfl ⟨⟨0,false,false,by rw[f.out.1,f.out.2];rfl⟩,h.out⟩
 have m:=(ae _).1 a;rw[aM a] at l;obtain⟨g,d⟩:=yq0 (λW (b:RdW W W.heap.size A G)=>(show Calls prog 210 #[.slice A G.length c,.int .i64 0] W λe i=>e=.returned (.tuple #[cpV G 0,.bool (lF G 0)])/\Below W.heap.size W i from rU A G c G.length 0 W rfl (by omega) (by omega) (by omega) H b)) (λW (b:RdW W W.heap.size A G)=>(show Calls prog 210 #[.slice A G.length c,.int .i64 1] W λe i=>e=.returned (.tuple #[cpV G 8,.bool (lF G 8)])/\Below W.heap.size W i from rU A G c G.length 1 W rfl (by omega) (by omega) (by omega) H b));have f:Hid (tyN G=(if lF G 0=true then some (wd G 3) else if lF G 8=true then some (wd G 11) else none)/\jJ G=if (tyN G).isSome=true then 0 else 50):=y5 ⟨rfl,by unfold jJ;rw[if_pos a]⟩;unfold cpV at g d;simp only[kxg,Nat.reduceAdd] at g d;obtain⟨r,j⟩:=xq (wd G 2);obtain⟨y,b⟩:=xq (wd G 3);obtain⟨J,k⟩:=xq (wd G 10);obtain⟨M,i⟩:=xq (wd G 11);rw[j,b] at g;rw[k,i] at d;rw[b,i] at f;clear a m j b k i;cases E:lF G 0<;>cases F:lF G 8
 all_goals
  rw[E] at g;rw[F] at d;rw[E,F] at f;simp only[if_true,kzp,if_false] at g d f;clear E F;go_enter func149,ntmps149;go_wp2_with fail;refine (l.out _).mono ?_;rintro e L ⟨rfl,rfl⟩;go_wp2_with fail;refine (g.out _ (yq8 B h)).mono ?_;rintro e I ⟨rfl,a⟩;obtain⟨s,t⟩:=yq0 (C.out.up a C.out.lt) (D.out.up a D.out.lt);have j:=h.out.trans (a.mono h.out.size);clear a;go_wp2_with fail;have z:=j.size;obtain⟨i,b⟩:=yq0 (j.alloc z (.cells #[.int .i64 0,.int .i64 0] 126)) (j.alloc z (.cells #[.int .i64 (r:Int),.int .i64 (y:Int)] 126));have hl0:=s.out.lt;have hl1:=t.out.lt;clear j
  first
   | refine (d.out _ (yq8 B i)).mono ?_
   | refine (d.out _ (yq8 B b)).mono ?_
  rintro e w3 ⟨rfl,a⟩
  first
   | (
    have j:=i.out.trans (a.mono i.out.size);have p:=(s.out.alloc (.cells #[.int .i64 0,.int .i64 0] 126)).up a (by simp;omega);have q:=(t.out.alloc (.cells #[.int .i64 0,.int .i64 0] 126)).up a (by simp;omega);have u:=(Bx.new I 126 #[.int .i64 0,.int .i64 0]).up a (by simp))
   | (
    have j:=b.out.trans (a.mono b.out.size);have p:=(s.out.alloc (.cells #[.int .i64 (r:Int),.int .i64 (y:Int)] 126)).up a (by simp;omega);have q:=(t.out.alloc (.cells #[.int .i64 (r:Int),.int .i64 (y:Int)] 126)).up a (by simp;omega);have u:=(Bx.new I 126 #[.int .i64 (r:Int),.int .i64 (y:Int)]).up a (by simp))
  obtain⟨p0,p1,f0,f1,hg0⟩:=p.c2;obtain⟨q0,q1,g0,g1,hg1⟩:=q.c2;obtain⟨r0,r1,-,-,hg2⟩:=u.c2;obtain⟨m,o,k⟩:=yq1 p q j;clear j a p q u i b;go_wp2_with fail
 all_goals
  first
   | exact kqq (v:=.tuple #[.agg #[.int .i64 0,.int .i64 0],.agg #[.bool false,.bool false],.int .i64 50]) (dd results149 _ (((((m.out.set_ 0 _).set_ 1 _).far (by simp) _).far (by simp) _).alloc _) (((((o.out.far (by simp) _).far (by simp) _).set_ 0 _).set_ 1 _).alloc _) rfl rfl rfl) rfl ⟨⟨0,false,false,by rw[f.out.2,f.out.1];rfl⟩,((((k.out.setCell (kqa _) _).setCell (kqa _) _).setCell (kje _) _).setCell (kje _) _).alloc (by simp;omega) _⟩
   | exact kqq (v:=.tuple #[.agg #[.int .i64 (J:Int),.int .i64 (M:Int)],.agg #[.bool false,.bool true],.int .i64 0]) (dd results149 _ (((((m.out.set_ 0 _).set_ 1 _).far (by simp) _).far (by simp) _).alloc _) (((((o.out.far (by simp) _).far (by simp) _).set_ 0 _).set_ 1 _).alloc _) rfl rfl rfl) rfl ⟨⟨J,false,true,by rw[f.out.2,f.out.1];rfl⟩,((((k.out.setCell (kqa _) _).setCell (kqa _) _).setCell (kje _) _).setCell (kje _) _).alloc (by simp;omega) _⟩
   | exact kqq (v:=.tuple #[.agg #[.int .i64 (r:Int),.int .i64 (y:Int)],.agg #[.bool true,.bool false],.int .i64 0]) (dd results149 _ (((((m.out.set_ 0 _).set_ 1 _).far (by simp) _).far (by simp) _).alloc _) (((((o.out.far (by simp) _).far (by simp) _).set_ 0 _).set_ 1 _).alloc _) rfl rfl rfl) rfl ⟨⟨r,true,false,by rw[f.out.2,f.out.1];rfl⟩,((((k.out.setCell (kqa _) _).setCell (kqa _) _).setCell (kje _) _).setCell (kje _) _).alloc (by simp;omega) _⟩
   | exact kqq (v:=.tuple #[.agg #[.int .i64 (r:Int),.int .i64 (y:Int)],.agg #[.bool true,.bool true],.int .i64 0]) (dd results149 _ (((((m.out.set_ 0 _).set_ 1 _).far (by simp) _).far (by simp) _).alloc _) (((((o.out.far (by simp) _).far (by simp) _).set_ 0 _).set_ 1 _).alloc _) rfl rfl rfl) rfl ⟨⟨r,true,true,by rw[f.out.2,f.out.1];rfl⟩,((((k.out.setCell (kqa _) _).setCell (kqa _) _).setCell (kje _) _).setCell (kje _) _).alloc (by simp;omega) _⟩
theorem pB{l:List Ty}(h:Rd w B A (l.flatMap Ty.cells))(g:k<l.length):
 ∃b a,A=some ⟨b,a,none⟩/\b<B/\w.cell? ⟨b,a+k,none⟩=some (.slice l[k].A l[k].l.length l[k].c):=by obtain⟨b,a,e,d,f⟩:=Rd.at_flat Ty.len h (by omega) g;have:=f 0 (by omega);simp only[kjd,kxb] at this;exact⟨b,a,e,d,this⟩
def vm (w:World) (H:Nat) (v:Value) (L:List Ty):Prop:=w.ownsRow H 113 1 v L.length (L.flatMap Ty.cells)/\∀x∈L,w.ownsRow H 5 1 (.slice x.A x.l.length x.c) x.l.length (x.l.flatMap bq)
theorem zi:(prog.info? 113).map (λi=>(i.zero,i.size,i.bytes))=some (some (.slice none 0 0),1,24):=by kernel_rfl
def Dr (G:List Nat) (t i:Nat):Bool:=if i<t then b8 (wd G (96+2*i)) (wd G (96+2*i+1)) else wd G (96+2*i)==0&&wd G (96+2*i+1)==0
def xY (G:List Nat) (t k:Nat):Prop:=∀i,i<k->Dr G t i=true
def iG (G:List Nat) (t:Nat):Bool:=(List.range 8).all λi=>Dr G t i
theorem jz(G:List Nat)(t:Nat):iG G t=true↔xY G t 8:=by unfold iG xY;rw[kzt];exact⟨λh i a=>h i (kzn.2 a),λh i a=>h i (kzn.1 a)⟩
theorem pu(h:xY G t k)(b:Dr G t k=true):xY G t (k+1):=λi hi=>by
 rcases kq8 i k with a|a
 .exact h i a
 .have:i=k:=(by omega);subst this;exact b
theorem rP(a:k<8)(h:Dr G t k=false):iG G t=false:=by
 cases b:iG G t with
 | false=>rfl
 | true=>rw[(jz G t).1 b k a] at h;cases h
def iu (G:List Nat) (t k:Nat):List (List Nat):=(List.range (min t k)).map λi=>bB (wd G (96+2*i)) (wd G (96+2*i+1))
theorem zS(h:k<t):iu G t (k+1)=iu G t k++[bB (wd G (96+2*k)) (wd G (96+2*k+1))]:=by unfold iu;rw[kvj (by omega),kvj (by omega),kkg,kjf];rfl
theorem BS(h:t<=k):iu G t (k+1)=iu G t k:=by unfold iu;rw[kxo (by omega),kxo (by omega)]
theorem ww(G:List Nat)(t k:Nat):(iu G t k).length=min t k:=by simp[iu]
theorem sK{wb:World}{v:Value}{x:Ty}(h:∀y∈L,w.ownsRow H 5 1 (.slice y.A y.l.length y.c) y.l.length (y.l.flatMap bq))(f:w.ownsRow H 5 1 (.slice x.A x.l.length x.c) x.l.length (x.l.flatMap bq))(b:wb.ownsRow H 113 1 v L.length (L.flatMap Ty.cells))(a:∀ {A:Option Addr} {n c:Nat} {xs:List Value},w.ownsRow H 5 1 (.slice A n c) n xs->wb.ownsRow H 5 1 (.slice A n c) n xs)(e:wb.grownBy w' v.ownBlock)(g:w'.ownsRow H 113 1 v1 (L.length+1) (L.flatMap Ty.cells++x.cells)):vm w' H v1 (L++[x]):=by
 refine⟨by rw[ce,kqu];exact g,λy d=>?_⟩;rcases kz1.1 d with d|d
 .exact cd (a (h y d)) e (gR (a (h y d)) b (by decide))
 rw[kq2] at d;subst d;exact cd (a f) e (gR (a f) b (by decide))
def If (G:List Nat) (t H:Nat) (e:Ending) (w':World):Prop:=∃v L,e=.returned (.tuple #[v,.bool (iG G t)])/\(iG G t=true->vm w' H v L/\L.map Ty.l=iu G t 8)
theorem zc(A:Option Addr)(G:List Nat)(c n t:Nat)(w:World)(d:G.length=n)(h2:256<=n)(hm:n<=2048)(b:RdW w w.heap.size A G)(a:∀x∈G,x<2^64):
 Calls prog 211 #[.slice A n c,.int .i64 (t:Int)] w λe S=>If G t w.heap.size e S/\Below w.heap.size w S:=by
 subst d;have HR:=y5 b;have Kc:Hid (∀k,wd G k<18446744073709551616):=y5 (fH a);clear b a;obtain⟨i2,f,a,b,d⟩:=kzh zi;obtain⟨HJ,Eq,Ka,Kb⟩:=yq2 f a b d;clear f a b d;go_enter func211,ntmps211;go_wp2_with fail;go_loopw [6,7] (λv i wr=>∃(k:Nat) (L:List Ty),k<=8/\i=.int .i64 k/\Hid (xY G t k)/\Hid (L.map Ty.l=iu G t k)/\L.length<=k/\Hid (vm wr w.heap.size v L)/\Below w.heap.size w wr) (λ_ i _=>8-(intOf i).toNat)
 case atStart=>exact⟨0,[],kqv _,rfl,y5 (λi h=>absurd h (by omega)),y5 (by simp[iu]),kqa _,y5 ⟨kq3 _ _ _ _,λx a=>absurd a (by simp)⟩,kqe _ _⟩
 obtain⟨k,L,hk,rfl,P,H,hLk,z,I⟩:=hrel;have M:=I.size;by_cases Kf:k<8
 .obtain ⟨b,g,rfl,hb,h0⟩:=RdW.at_ (Rd.below HR.out I) (show 96+2*k<G.length by omega);obtain⟨b',off',e',-,V⟩:=RdW.at_ (Rd.below HR.out I) (show 96+2*k+1<G.length by omega);cases e';rw[<-bY] at h0 V;obtain⟨d,u,m⟩:=yq1 (λW=>yn (wd G (96+2*k)) (wd G (96+2*k+1)) W (Kc.out _)) (λh=>pu P.out h) (λh=>rP (G:=G) (t:=t) Kf h);have f:Hid (Dr G t k=if k<t then b8 (wd G (96+2*k)) (wd G (96+2*k+1)) else wd G (96+2*k)==0&&wd G (96+2*k+1)==0):=y5 rfl;obtain⟨o,E⟩:=yq0 (λh=>zS (G:=G) (t:=t) (k:=k) h) (λh=>BS (G:=G) (t:=t) (k:=k) h);have i1:IntKind.i64.wrap ((2:Int)*(k:Int))=2*(k:Int):=kqo _ (by omega);have i2':IntKind.i64.wrap ((96:Int)+2*(k:Int))=((96+2*k:Nat):Int):=by rw[kqo _ (by omega)];omega
  have i3:IntKind.i64.wrap (((96+2*k:Nat):Int)+1)=((96+2*k+1:Nat):Int):=by rw[kqo _ (by omega)];omega
  have j1:((96+2*k:Nat):Int)<(G.length:Int):=(by omega);have j2:(0:Int)<=((96+2*k:Nat):Int):=(by omega);have j3:((96+2*k+1:Nat):Int)<(G.length:Int):=(by omega);have j4:(0:Int)<=((96+2*k+1:Nat):Int):=(by omega);have hk1:(k:Int)<8:=(by omega);obtain⟨p,i⟩:=xq (96+2*k);rw[i] at h0 V d f o i2' i3 j1 j2 j3 j4;obtain⟨q,j⟩:=xq (p+1);rw[j] at V d f o i3 j3 j4;obtain⟨x,a⟩:=xq (wd G p);obtain⟨y,K⟩:=xq (wd G q);rw[a] at h0 d f o;rw[K] at V d f o;have O:=y5 I;clear a K i j;by_cases j:k<t
  .have d1:decide ((k:Int)<(t:Int))=true:=(by rw[kqh];omega);have d1n:decide (k<t)=true:=by rw[kqh];exact j
   have d2:decide ((t:Int)<=(k:Int))=false:=(by rw[kqb];omega);have d2n:decide (t<=k)=false:=by rw[kqb];omega
   cases i:b8 x y
   .have B:=y5 (m.out (by rw[f.out,if_pos j,i]));have s:ff x y=50:=by unfold ff;rw[i];rfl
    have a:bB x y=[]:=by unfold bB;rw[i];rfl
    unfold mq at d;rw[s,a] at d;clear i s a f m u o E j;go_wp2_with fail
    go_region_held3 (λX:World=>X.cell? ⟨b,g+p,none⟩=some (.int .u64 (x:Int))/\X.cell? ⟨b,g+q,none⟩=some (.int .u64 (y:Int))) (go_keep) (fail)
    go_wp2_with fail;refine (d.out _).mono ?_;rintro e N ⟨⟨T,U,rfl,-⟩,a⟩;have C:=O.out.drew.trans (a.mono M);clear a;go_wp2;go_ret2;exact⟨⟨.slice none 0 0,[],by rw[B.out];rfl,λh=>by rw[B.out] at h;cases h⟩,C⟩
   obtain⟨B,F⟩:=yq0 (u.out (by rw[f.out,if_pos j,i])) (o.out j);have s:ff x y=0:=by unfold ff;rw[i];rfl
   unfold mq at d;rw[s] at d;obtain⟨l,D⟩:=xq (bB x y);rw[D] at d F;clear i s D f m u o E j;go_wp2_with fail
   go_region_held3 (λX:World=>X.cell? ⟨b,g+p,none⟩=some (.int .u64 (x:Int))/\X.cell? ⟨b,g+q,none⟩=some (.int .u64 (y:Int))) (go_keep) (fail)
   go_wp2_with fail;refine (d.out _).mono ?_;rintro e N ⟨⟨T,U,rfl,i⟩,a⟩;have C:=O.out.drew.trans (a.mono M);have R:=C.size;have D:=ag (show wr.drew.ownsRow _ _ _ _ _ _ from z.out.1) a (kqa _);have Z:Hid (∀y∈L,N.ownsRow w.heap.size 5 1 (.slice y.A y.l.length y.c) y.l.length (y.l.flatMap bq)):=y5 λy K=>ag (show wr.drew.ownsRow _ _ _ _ _ _ from z.out.2 y K) a (kqa _);obtain⟨Ke,Q,s⟩:=yq1 (ab i (show w.heap.size<=wr.drew.heap.size from M)) D C;clear a i C z;go_wp2_with (at_builtin;refine kq7 _ rfl _ _ 69 rfl w.heap.size 113 i2 _ 1 24 underlying69 HJ.out Eq.out Ka.out Kb.out rfl (by decide) _ _ _ rfl (D.alloc _) ⟨_,0,none⟩ 1 1 [.slice T l.length U] rfl rfl (bc _ _ _) (by simp[Value.oneCell']) (by unfold maxLen;omega) (by omega) (cr R) ?_;intro v1 w6 i J _;have Y:=y5 (ay s.out R D J);have Kd:=y5 (sK (x:=⟨T,U,l⟩) Z.out Ke.out (Q.out.alloc _) (λh=>h.alloc _) J i);clear i J);go_roundw;exact⟨k+1,L++[⟨T,U,l⟩],by omega,by go_num,B,y5 (by rw[kjf,H.out,F.out];rfl),by simp;omega,Kd,Y.out⟩;simp[intOf];omega
  have d1:decide ((k:Int)<(t:Int))=false:=(by rw[kqb];omega);have d1n:decide (k<t)=false:=by rw[kqb];exact j
  have d2:decide ((t:Int)<=(k:Int))=true:=(by rw[kqh];omega);have d2n:decide (t<=k)=true:=(by rw[kqh];omega);have F:=y5 (E.out (by omega));have i:Hid (Dr G t k=(x==0&&y==0)):=y5 (by rw[f.out,if_neg j]);have l:=y5 (λW=>(d.out W).mono (R':=λe S=>(∃v r,e=.returned (.tuple #[v,.int .i64 r]))/\Below W.heap.size W S) (by rintro e S ⟨⟨A,c,rfl,-⟩,I⟩;exact⟨⟨_,_,rfl⟩,I⟩));clear d f o E j;by_cases d:x=0
  .subst d;by_cases f:y=0
   .subst f;have B:=y5 (u.out (by rw[i.out];rfl));clear m u i;go_wp2_with fail
    go_region_held3 (λX:World=>X.cell? ⟨b,g+p,none⟩=some (.int .u64 ((0:Nat):Int))/\X.cell? ⟨b,g+q,none⟩=some (.int .u64 ((0:Nat):Int))) (go_keep) (fail)
    go_wp2_with fail;refine (l.out _).mono ?_;rintro e N ⟨⟨v3,o,rfl⟩,a⟩;have s:=y5 (O.out.drew.trans (a.mono M));have j:Hid (vm N w.heap.size u6 L):=y5 ⟨ag (show wr.drew.ownsRow _ _ _ _ _ _ from z.out.1) a (kqa _),λy K=>ag (show wr.drew.ownsRow _ _ _ _ _ _ from z.out.2 y K) a (kqa _)⟩;clear a;go_wp2;go_roundw;exact⟨k+1,L,by omega,by go_num,B,y5 (by rw[H.out,F.out]),by omega,j,s.out⟩;simp[intOf];omega
   have B:=y5 (m.out (by rw[i.out,show (y==0)=false by rw[kqc];exact f];rfl));have v:decide ((0:Int)<(y:Int))=true:=(by rw[kqh];omega);have j:decide (0<y)=true:=(by rw[kqh];omega);clear m u i f;go_wp2_with fail
   go_region_held3 (λX:World=>X.cell? ⟨b,g+p,none⟩=some (.int .u64 ((0:Nat):Int))/\X.cell? ⟨b,g+q,none⟩=some (.int .u64 (y:Int))) (go_keep) (fail)
   go_wp2_with fail;refine (l.out _).mono ?_;rintro e N ⟨⟨v3,o,rfl⟩,a⟩;have s:=y5 (O.out.drew.trans (a.mono M));clear a;go_wp2;go_ret2;exact⟨⟨.slice none 0 0,[],by rw[B.out];rfl,λh=>by rw[B.out] at h;cases h⟩,s.out⟩
  have B:=y5 (m.out (by rw[i.out,show (x==0)=false by rw[kqc];exact d];rfl));have v:decide ((0:Int)<(x:Int))=true:=(by rw[kqh];omega);have j:decide (0<x)=true:=(by rw[kqh];omega);clear m u i d;go_wp2_with fail
  go_region_held3 (λX:World=>X.cell? ⟨b,g+p,none⟩=some (.int .u64 (x:Int))/\X.cell? ⟨b,g+q,none⟩=some (.int .u64 (y:Int))) (go_keep) (fail)
  go_wp2_with fail;refine (l.out _).mono ?_;rintro e N ⟨⟨v3,o,rfl⟩,a⟩;have s:=y5 (O.out.drew.trans (a.mono M));clear a;go_wp2;go_ret2;exact⟨⟨.slice none 0 0,[],by rw[B.out];rfl,λh=>by rw[B.out] at h;cases h⟩,s.out⟩
 obtain rfl:k=8:=(by omega);have a:Hid (iG G t=true):=y5 ((jz G t).2 P.out);go_wp2;go_ret2;exact⟨⟨_,L,by rw[a.out];rfl,λ_=>⟨z.out,H.out⟩⟩,I⟩
def oH (l:List Bk) (j:Nat):Bool:=!(j==0)&&((gk l (j-1)).kind==2&&(gk l j).kind==2)
def kE (l:List Bk):Bool:=(List.range l.length).all λj=>!oH l j
def oN (l:List Bk) (k:Nat):Prop:=∀j,j<k->oH l j=false
theorem oC(l:List Bk):kE l=true↔oN l l.length:=by
 unfold kE oN;rw[kzt];constructor
 .intro h j a;have:=h j (kzn.2 a)
  simpa using this
 intro h j a;have:=h j (kzn.1 a)
 simpa using this
theorem pG(l:List Bk):oN l 0:=λj h=>absurd h (by omega)
theorem lR(h:oN l k)(b:oH l k=false):oN l (k+1):=λj hj=>by
 rcases kq8 j k with a|a
 .exact h j a
 .have:j=k:=(by omega);subst this;exact b
theorem rN(a:k<l.length)(h:oH l k=true):kE l=false:=by
 cases b:kE l with
 | false=>rfl
 | true=>have:=(oC l).1 b k a;rw[h] at this;cases this
def xH (G:List Nat):Bool:=match blocks G 128 with | none=>false | some l=>kE l
theorem iT(h:blocks G 128=some l):xH G=kE l:=by unfold xH;rw[h]
theorem nz(h:blocks G 128=none):xH G=false:=by unfold xH;rw[h]
theorem zt(A:Option Addr)(G:List Nat)(c n:Nat)(w:World)(b:G.length=n)(O:am (n:Int)=true)(N:RdW w w.heap.size A G)(M:∀x∈G,x<2^64):
 Calls prog 153 #[.slice A n c] w λe a=>(∃A k c,e=.returned (.tuple #[.slice A k c,.bool (xH G)])/\(xH G=true->∃l,blocks G 128=some l/\k=l.length/\k<=c/\RdB a a.heap.size A l))/\Below w.heap.size w a:=by
 subst b;have L:=(ae _).1 O;have g:=y5 (mJ A G c G.length 128 w rfl (by omega) (by omega) (by omega) (by omega) N M);unfold tP nB at g;have f:∀l,blocks G 128=some l->l.length<=1024:=λl h=>by
  have:=(bv (by omega) _ _ h (by omega) (by omega) (by omega)).1;omega
 cases p:blocks G 128 with
 | none =>
  rw[p] at g;simp only[kkt,kj5,kxd] at g;have z:=y5 (nz p);clear p N M O L f;go_enter func153,ntmps153;go_wp2_with fail;refine g.out.mono ?_;rintro e P ⟨⟨Q,R,rfl,-,-⟩,a⟩;go_wp2_with fail;go_loopw [5,6] (λv i wr=>v=.bool false/\i=.int .i64 1/\wr=P) (λ_ _ _=>0)
  case atStart=>exact⟨rfl,rfl,rfl⟩
  obtain⟨rfl,rfl,rfl⟩:=hrel;go_wp2;go_ret2;exact⟨⟨none,0,0,by rw[z.out];rfl,λh=>by rw[z.out] at h;cases h⟩,a⟩
 | some l =>
  have hl24:=f l p;rw[p] at g;simp only[kq9,kxv] at g;have z:=y5 (iT p);clear p N M O L f;obtain⟨F,J⟩:=yq0 (λk D h=>rN (l:=l) (k:=k) D h) (oC l);go_enter func153,ntmps153;go_wp2_with fail;refine g.out.mono ?_;rintro e P ⟨⟨Q,R,rfl,d,b⟩,a⟩;obtain⟨o,r,I⟩:=yq1 d a b;clear d a b;go_wp2_with fail;go_loopw [5,6] (λv i wr=>∃(k:Nat) (q:Bool),1<=k/\(k<=l.length\/k=1)/\v=.bool q/\i=.int .i64 k/\wr=P/\Hid ((q=true->oN l k)/\(q=false->kE l=false))) (λ_ i _=>l.length-(intOf i).toNat)
  case atStart =>
   refine⟨1,true,kqa _,.inr rfl,rfl,rfl,rfl,y5 ⟨λ_=>lR (pG l) rfl,λh=>by cases h⟩⟩
  obtain⟨k,q,v,D,rfl,rfl,rfl,i⟩:=hrel;by_cases d:k<l.length
  .obtain ⟨b,off,rfl,L,-,-,V,-⟩:=RdB.at_ o.out d;obtain⟨b',off',T,-,-,-,S,-⟩:=RdB.at_ o.out (show k-1<l.length by omega);cases T;obtain⟨t,H⟩:=yq0 (λh=>lR (i.out.1 h)) (F.out k d);have a:oH l k=((l[k-1].kind==2)&&(l[k].kind==2)):=by unfold oH;rw[bG l k d,bG l (k-1) (by omega),show (k==0)=false by rw[kqc];omega];rfl
   have u:=y5 i.out.2;obtain⟨x,s⟩:=xq (l[k].kind);obtain⟨y,K⟩:=xq (l[k-1].kind);rw[s] at V a;rw[K] at S a;have U:IntKind.i64.wrap ((k:Int)-1)=((k-1:Nat):Int):=by rw[kqo _ (by omega)];omega
   have hki:(k:Int)<(l.length:Int):=(by omega);have hk0:(0:Int)<=(k:Int):=(by omega);have C:((k-1:Nat):Int)<(l.length:Int):=(by omega);have B:(0:Int)<=((k-1:Nat):Int):=(by omega);obtain⟨m,j⟩:=xq (k-1);rw[j] at U C B S;have E:=y5 a;clear s K i j a;by_cases j:y=2
   .subst j;by_cases a:x=2
    .subst a;have s:=y5 (H.out (by rw[E.out];rfl));go_wp2;go_roundw;exact⟨k+1,false,by omega,by omega,rfl,by go_num,trivial,y5 ⟨λh=>(by cases h),λ_=>s.out⟩⟩;simp[intOf];omega
    have K:(x==2)=false:=by rw[kqc];exact a
    have s:Hid (oH l k=false):=y5 (by rw[E.out,K];rfl);clear a;go_wp2;go_roundw;exact⟨k+1,q,by omega,by omega,rfl,by go_num,trivial,y5 ⟨λh=>t.out h s.out,u.out⟩⟩;simp[intOf];omega
   have K:(y==2)=false:=by rw[kqc];exact j
   have s:Hid (oH l k=false):=y5 (by rw[E.out,K];rfl);clear j;go_wp2;go_roundw;exact⟨k+1,q,by omega,by omega,rfl,by go_num,trivial,y5 ⟨λh=>t.out h s.out,u.out⟩⟩;simp[intOf];omega
  have hend:decide ((k:Int)<(l.length:Int))=false:=(by rw[kqb];omega);have hendn:decide (k<l.length)=false:=by rw[kqb];exact d
  cases q with
  | true =>
   have a:Hid (xH G=true):=y5 (by
    rw[z.out];refine J.out.2 λj hj=>i.out.1 rfl j (by omega))
   clear i v D d;go_wp2;go_ret2;exact⟨⟨Q,l.length,R,by rw[a.out];rfl,λ_=>⟨l,rfl,rfl,I.out,o.out⟩⟩,r.out⟩
  | false =>have a:Hid (xH G=false):=y5 (by rw[z.out];exact i.out.2 rfl);clear i v D d;go_wp2;go_ret2;exact⟨⟨none,0,0,by rw[a.out];rfl,λh=>by rw[a.out] at h;cases h⟩,r.out⟩
def BI (s:Sl):Int:=if my s=true then 0 else 8
theorem xe(g:Int)(u:Bool)(a:Int)(w:World)(l:0<=g)(m:g<=2147483647):
 Calls prog 262 #[.agg #[.int .i64 g,.bool u,.int .i64 a]] w λe b=>e=.returned (.int .i64 (BI ⟨g,u,a⟩))/\Below w.heap.size w b:=by
 have b:=(kqe w.heap.size w).alloc (kqa _) (.cells #[.int .i64 g,.bool u,.int .i64 a] 52);have d:=y5 b;have d1:decide (0<=g)=true:=(by rw[kqh];omega);have d2:decide (g<=2147483647)=true:=(by rw[kqh];omega);clear b;cases u
 .have H:Hid (BI ⟨g,false,a⟩=if (a==0)=true then 0 else 8):=y5 rfl;obtain⟨b,c⟩:=xq ((a==0));rw[c] at H;cases b
  all_goals
   go_enter func262,ntmps262;go_wp2;go_ret;exact⟨by rw[H.out];rfl,d.out⟩
 have H:Hid (BI ⟨g,true,a⟩=if (decide (0<g)&&(decide (128<=a)&&decide (a<2048)))=true then 0 else 8):=y5 rfl;have i:decide (1<=g)=decide (0<g):=(by rw[decide_eq_decide];omega);obtain⟨e,c⟩:=xq (decide (0<g));obtain⟨f,j⟩:=xq (decide (128<=a));obtain⟨h,k⟩:=xq (decide (a<2048));rw[c] at i;rw[c,j,k] at H;clear l m c;cases e<;>cases f<;>cases h
 all_goals
  go_enter func262,ntmps262;go_wp2;go_ret;exact⟨by rw[H.out];rfl,d.out⟩
theorem xL(x:Nat)(w:World)(b:x<18446744073709551616):
 Calls prog 212 #[.int .u64 (x:Int)] w λe a=>e=.returned (.tuple #[(slB x).val,.int .i64 (wU x)])/\Below w.heap.size w a:=by
 obtain⟨z,A,C,D⟩:=io x;obtain⟨j,i,d,m,f⟩:=yq3 (λh=>xp (x:=x) h) (λh=>yI (x:=x) h) (λW=>je x 32 31 W b (by omega)) (λW=>je x 63 1 W b (by omega)) (λW=>je x 0 32 W b (by omega));have c:((bJ x 32 31:Nat):Int)=(eh x).gen:=by unfold bJ eh;rfl
 have y:(((bJ x 63 1:Nat):Int)==1)=(eh x).used:=by
  have:bJ x 63 1=x/9223372036854775808:=by unfold bJ;omega
  rw[this];show _=(x/9223372036854775808==1);rw[kzk,kqw,kqw];omega
 have h:((bJ x 0 32:Nat):Int)=(eh x).at_:=by unfold bJ eh;simp
 rw[c] at d;rw[h] at f;obtain⟨q,l⟩:∃q:Int,((bJ x 63 1:Nat):Int)=q:=⟨_,rfl⟩;rw[l] at m y;have k:=y5 (λW=>xe (eh x).gen (eh x).used (eh x).at_ W z A);obtain⟨s,n⟩:=xq (eh x);rw[n] at y z A C D j i d f k;obtain⟨g,u,a⟩:=s;dsimp only at y z A C D d f k;have w1:IntKind.i64.wrap g=g:=kqo _ (by omega);have w2:IntKind.i64.wrap a=a:=kqo _ (by omega);clear c h l n b;have l:=Bx.new w 52 #[.int .i64 0,.bool false,.int .i64 0];have b:=(kqe w.heap.size w).alloc (kqa _) (.cells #[.int .i64 0,.bool false,.int .i64 0] 52);obtain⟨r,h⟩:=yq0 (l.alloc (.cells #[.int .i64 g,.bool u,.int .i64 a] 52)) (b.alloc (by simp) (.cells #[.int .i64 g,.bool u,.int .i64 a] 52));have c:=Bx.new (w.alloc (.cells #[.int .i64 0,.bool false,.int .i64 0] 52)) 52 #[.int .i64 g,.bool u,.int .i64 a];rw[kqm] at c;have B:=y5 c;clear l b c;cases c:my ⟨g,u,a⟩
 .have o:=y5 (i.out c);unfold BI at k;rw[c] at k;clear c j i;go_enter func212,ntmps212;go_wp2_with fail;refine (d.out _).mono ?_;rintro e p ⟨rfl,rfl⟩;go_wp2_with fail;refine (m.out _).mono ?_;rintro e p ⟨rfl,rfl⟩;go_wp2_with fail;refine (f.out _).mono ?_;rintro e p ⟨rfl,rfl⟩;go_wp2_with fail;refine (k.out _).mono ?_;rintro e L ⟨rfl,b⟩;have n:=r.out.up b r.out.lt;have l:=yq7 h b;obtain⟨I,J,K,E,F,G,H⟩:=n.c3;have t:=y5 n;clear n b;go_wp2_with fail;exact kqq (v:=.tuple #[.agg #[.int .i64 0,.bool false,.int .i64 0],.int .i64 50]) (kh results212 _ (((t.out.set_ 0 _).set_ 1 _).set_ 2 _) rfl rfl) rfl ⟨by rw[o.out.1,o.out.2];rfl,(((l.out.setCell (kqa _) _).setCell (kqa _) _).setCell (kqa _) _)⟩
 have o:=y5 (j.out c);unfold BI at k;rw[c] at k;clear c j i;go_enter func212,ntmps212;go_wp2_with fail;refine (d.out _).mono ?_;rintro e p ⟨rfl,rfl⟩;go_wp2_with fail;refine (m.out _).mono ?_;rintro e p ⟨rfl,rfl⟩;go_wp2_with fail;refine (f.out _).mono ?_;rintro e p ⟨rfl,rfl⟩;go_wp2_with fail;refine (k.out _).mono ?_;rintro e L ⟨rfl,b⟩;have n:=r.out.up b r.out.lt;have c:=B.out.up b B.out.lt;have l:=yq7 h b;obtain⟨I,J,K,E,F,G,H⟩:=n.c3;obtain⟨q0,q1,q2,-,-,-,hg2⟩:=c.c3;have t:=y5 n;clear n c b;go_wp2_with fail;exact kqq (v:=.tuple #[.agg #[.int .i64 g,.bool u,.int .i64 a],.int .i64 0]) (kh results212 _ (((t.out.set_ 0 _).set_ 1 _).set_ 2 _) rfl rfl) rfl ⟨by rw[o.out.1,o.out.2];rfl,(((l.out.setCell (kqa _) _).setCell (kqa _) _).setCell (kqa _) _)⟩
theorem EI:(prog.info? 52).map (λi=>(i.zero,i.size,i.bytes))=some (some (.agg #[.int .i64 0,.bool false,.int .i64 0]),3,24):=by kernel_rfl
def Bw (H:Nat) (G:List Nat) (e:Ending) (w':World):Prop:=∃A n c,e=.returned (.tuple #[.slice A n c,.bool (slsOk G)])/\(slsOk G=true->n=16/\n<=c/\w'.ownsRow H 52 3 (.slice A n c) n ((slL G).flatMap Sl.cells))
def TlRes (G:List Nat) (e:Ending) (w':World):Prop:=∃A n c,e=.returned (.tuple #[.slice A n c,.bool (slsOk G)])/\(slsOk G=true->n=16/\n<=c/\RdS w' w'.heap.size A (slL G))
theorem lZ(A:Option Addr)(G:List Nat)(c n:Nat)(w:World)(f:G.length=n)(B:256<=n)(hm:n<=2048)(b:RdW w w.heap.size A G)(a:∀x∈G,x<2^64):
 Calls prog 152 #[.slice A n c] w λe d=>Bw w.heap.size G e d/\Below w.heap.size w d:=by
 subst f;have K:=y5 b;have z:Hid (∀k,wd G k<18446744073709551616):=y5 (fH a);clear b a;obtain⟨L,f,a,b,d⟩:=kzh EI;obtain⟨J,t,u,y⟩:=yq2 f a b d;clear f a b d;go_enter func152,ntmps152;go_wp2_with fail;go_loopw [4,5] (λv i wr=>∃k:Nat,k<=16/\i=.int .i64 k/\Hid (oI G k)/\wr.ownsRow w.heap.size 52 3 v k (((slL G).take k).flatMap Sl.cells)/\Below w.heap.size w wr) (λ_ i _=>16-(intOf i).toNat)
 case atStart=>exact⟨0,kqv _,rfl,pg G,kq3 _ _ _ _,kqe _ _⟩
 obtain⟨k,hk,rfl,o,a,q⟩:=hrel;have F:=q.size;by_cases r:k<16
 .obtain ⟨b,off,rfl,hb,E⟩:=RdW.at_ (Rd.below K.out q) (show 112+k<G.length by omega);rw[<-bY] at E;obtain⟨d,l,j⟩:=yq1 (λW=>xL (wd G (112+k)) W (z.out _)) (λh=>pL o.out h) (λh=>ry (G:=G) r h);have i:eh (wd G (112+k))=slAt G k:=rfl;have v:k<(slL G).length:=by rw[fi];exact r
  have m:=y5 (show ((slL G).take (k+1)).flatMap Sl.cells=((slL G).take k).flatMap Sl.cells++(slAt G k).cells by
   rw[kqi v,ce,lH])
  have i1:(0:Int)<=112+(k:Int):=(by omega);have i2':(112:Int)+(k:Int)<(G.length:Int):=(by omega);have n1:((112:Int)+(k:Int)).toNat=112+k:=(by omega);have hk1:(k:Int)<16:=(by omega);have hk0:(0:Int)<=(k:Int):=(by omega);obtain⟨x,C⟩:=xq (wd G (112+k));rw[C] at E d i;cases f:my (slAt G k)
  .have D:=y5 (j.out f);rw[<-i] at f;rw[(yI f).1,(yI f).2] at d;unfold Sl.val at d;dsimp only at d;clear C f i j l a;go_wp2_with fail;refine (d.out _).mono ?_;rintro e M ⟨rfl,g⟩;have p:=q.trans (g.mono F);have s:=p.size;clear g;go_wp2;go_ret2;exact⟨⟨none,0,0,by rw[D.out];rfl,λh=>by rw[D.out] at h;cases h⟩,p.alloc s _⟩
  have p:=y5 (l.out f);rw[<-i] at f;rw[(xp f).1,(xp f).2,i] at d;obtain⟨s,h⟩:=xq (slAt G k);rw[h] at d m;obtain⟨H,I,D⟩:=s;unfold Sl.val at d;dsimp only at d;clear C f i h j l;go_wp2_with fail;refine (d.out _).mono ?_;rintro e M ⟨rfl,g⟩;have i:=q.trans (g.mono F);have C:=i.size;have f:=ag a g (kqa _);clear g a;go_wp2_with (at_builtin;refine kq7 _ rfl _ _ 45 rfl w.heap.size 52 L _ 3 24 underlying45 J.out t.out u.out y.out rfl (by decide) _ _ _ rfl ((f.alloc _).alloc _) ⟨_,0,none⟩ 1 1 [.int .i64 H,.bool I,.int .i64 D] rfl rfl (lM _ _ _ (kqm _ _)) (by simp[Value.oneCell']) (by unfold maxLen;omega) (by omega) (by simp;omega) ?_;intro v1 w6 h l _;have j:=ay (i.alloc C (.cells #[.int .i64 H,.bool I,.int .i64 D] 52)) (by simp;omega) (f.alloc _) l);go_roundw;exact⟨k+1,by omega,by go_num,p.out,by rw[m.out];exact h,j⟩;simp[intOf];omega
 obtain rfl:k=16:=(by omega);have f:slsOk G=true:=(cO G).2 o.out;have i:=y5 f;rw[kza (by rw[fi];exact kqa _)] at a;obtain⟨h,e,rfl⟩:=aw a;have d:16<=e:=by
  rcases a.2 with⟨b,B⟩|⟨g,cap,cur,b,-,-,B,-⟩
  .cases B
  simp only[Value.slice.injEq] at b;omega
 have b:=y5 a;clear f a;go_wp2;go_ret2;exact⟨⟨h,16,e,by rw[i.out];rfl,λ_=>⟨rfl,d,b.out⟩⟩,q⟩
theorem CM(A:Option Addr)(G:List Nat)(c n:Nat)(w:World)(g:G.length=n)(b:256<=n)(f:n<=2048)(j:RdW w w.heap.size A G)(i:∀x∈G,x<2^64):
 Calls prog 152 #[.slice A n c] w λe a=>TlRes G e a/\Below w.heap.size w a:=(lZ A G c n w g b f j i).mono λ_ _ ⟨⟨A,n,c,e,h⟩,d⟩=>⟨⟨A,n,c,e,λa=>⟨(h a).1,(h a).2.1,Rd.of_own (h a).2.2⟩⟩,d⟩
def uA (v:Nat):Bool:=v==9221120237041090561||decide (v%9223372036854775808<=9218868437227405312)
def aP (l:List Bk):List Bk:=l.filter λb=>b.kind==1
def mw (O:List Bk) (v:Nat):Bool:=O.any λb=>b.at_==(v:Int)
def wrF (G F:List Nat) (O:List Bk) (m r i:Nat):Bool:=if r=10 then F[i]? == some 2 && !uA (wd G (m+2+i)) else F[i]? == some 3&&(decide (0<wd G (m+2+i)) && !mw O (wd G (m+2+i)))
def wrB (G:List Nat) (T:List (List Nat)) (O:List Bk) (m z ty:Nat) (mk:Bool) (nx r:Nat):Bool:=
 if r=7 then mk||decide (0<nx)
 else if r=8 then !decide (ty<T.length)||bp (T[ty]?.getD []).length != z
 else if r=9 then decide ((T[ty]?.getD []).length+2<z)&&wd G (m+2+(T[ty]?.getD []).length) != 0
 else (List.range (T[ty]?.getD []).length).any λi=>wrF G (T[ty]?.getD []) O m r i
def wrK (G:List Nat) (T:List (List Nat)) (O:List Bk) (r:Nat) (b:Bk):Bool:=wrB G T O b.at_.toNat b.size.toNat b.typ.toNat b.mark b.next r
def fF (G:List Nat) (a:Nat):Bool:=(List.range 8).all λi=>wd G (a+i)==0
def px (G:List Nat) (a k:Nat):Prop:=∀i,i<k->wd G (a+i)=0
theorem oD(G:List Nat)(a:Nat):fF G a=true↔px G a 8:=by
 unfold fF px;rw[kzt];constructor
 .intro h i b;have:=h i (kzn.2 b);simpa using this
 intro h i b;have:=h i (kzn.1 b);simpa using this
def kn (O:List Bk) (s:Sl):Bool:=!s.used||mw O s.at_.toNat
def lay (G:List Nat):Bool:=match tyN G,blocks G 128 with
 | some t,some l=>fF G 16&&(fF G 24&&(iG G t&&(slsOk G&&(kE l&&((List.range 5).all (λr=>(aP l).all λb => !wrK G (iu G t 8) (aP l) (7+r) b)&&(slL G).all (kn (aP l)))))))
 | _,_=>false
def d7 (G:List Nat):Int:=if am (G.length:Int)=true then (if lay G=true then 0 else 50) else 8
theorem Ia(h:v≠9221120237041090561):uA v=decide (v%9223372036854775808<=9218868437227405312):=by unfold uA;rw[show (v==9221120237041090561)=false by rw[kqc];exact h];rfl
theorem rS(a:k<l.length):aP (l.take (k+1))=aP (l.take k)++(if l[k].kind=1 then [l[k]] else []):=by
 unfold aP;rw[kqi a,kxa];congr 1;by_cases h:l[k].kind=1
 .rw[if_pos h];simp[h]
 rw[if_neg h];simp[h]
theorem Hj(a:k<O.length)(h:O[k].at_=(v:Int)):mw O v=true:=by unfold mw;rw[kx1];exact⟨_,kqp a,by rw[kqw];exact h⟩
theorem IP(h:∀k (a:k<O.length),O[k].at_≠(v:Int)):mw O v=false:=by unfold mw;rw[kkc];intro b c;obtain⟨k,a,rfl⟩:=kqy c;rw[kqw];exact h k a
theorem xE(v:Nat)(w:World):Calls prog 215 #[.int .u64 (v:Int)] w λe a=>e=.returned (.bool (uA v))/\w=a:=by
 have h0:(0:Int)<=(v:Int):=(by omega);by_cases h:v=9221120237041090561
 .subst h;go_enter func215,ntmps215;go_wp2;go_ret;exact⟨rfl,rfl⟩
 have a:=y5 (Ia h);have e1:((v:Int)==9221120237041090561)=false:=(by rw[kqc];omega);have c:decide ((v:Int)%9223372036854775808<=9218868437227405312)=decide (v%9223372036854775808<=9218868437227405312):=(by rw[decide_eq_decide];omega);obtain⟨q,b⟩:=xq (decide (v%9223372036854775808<=9218868437227405312));rw[b] at a c;clear h b;go_enter func215,ntmps215;go_wp2;go_ret;exact⟨by rw[a.out];rfl,rfl⟩
theorem xU(n:Nat)(w:World)(hn:n<=1000000):Calls prog 214 #[.int .i64 (n:Int)] w λe a=>e=.returned (.int .i64 ((bp n:Nat):Int))/\w=a:=by
 by_cases h:n%2=1
 .have b:((n:Int)%2==1)=true:=(by rw[kqw];omega);have a:=y5 (show ((bp n:Nat):Int)=(n:Int)+1+2 by unfold bp;omega);have w1:IntKind.i64.wrap ((n:Int)+1)=(n:Int)+1:=kqo _ (by omega);have c:IntKind.i64.wrap ((n:Int)+1+2)=(n:Int)+1+2:=kqo _ (by omega);clear h;go_enter func214,ntmps214;go_wp2;go_ret;exact⟨by rw[a.out];go_num,rfl⟩
 have b:((n:Int)%2==1)=false:=(by rw[kqc];omega);have a:=y5 (show ((bp n:Nat):Int)=(n:Int)+2 by unfold bp;omega);have c:IntKind.i64.wrap ((n:Int)+2)=(n:Int)+2:=kqo _ (by omega);clear h;go_enter func214,ntmps214;go_wp2;go_ret;exact⟨by rw[a.out];go_num,rfl⟩
theorem za(A:Option Addr)(G:List Nat)(c n a:Nat)(w:World)(b:G.length=n)(ha:a+8<=n)(hm:n<=2048)(s:RdW w w.heap.size A G):
 Calls prog 150 #[.slice A n c,.int .i64 (a:Int)] w λe d=>e=.returned (.bool (fF G a))/\w=d:=by
 subst b;obtain⟨q,m⟩:=yq0 s (oD G a);go_enter func150,ntmps150;go_wp2_with fail
 go_loop [5] (λi=>∃k:Nat,k<=8/\i=.int .i64 k/\Hid (px G a k)) (λi=>8-(intOf i).toNat)
 case atStart=>exact⟨0,kqv _,rfl,y5 λi h=>absurd h (by omega)⟩
 obtain⟨k,hk,rfl,o⟩:=hrel;by_cases l:k<8
 .obtain ⟨b,off,rfl,hb,j⟩:=RdW.at_ q.out (show a+k<G.length by omega);rw[<-bY] at j;have f:Hid (wd G (a+k)=0->px G a (k+1)):=y5 λh i r=>by
   rcases kq8 i k with d|d
   .exact o.out i d
   have:i=k:=(by omega);subst this;exact h
  have e:Hid (wd G (a+k)≠0->fF G a=false):=y5 λh=>by
   cases d:fF G a with
   | false=>rfl
   | true=>exact absurd (m.out.1 d k l) h
  have h:IntKind.i64.wrap ((a:Int)+(k:Int))=((a+k:Nat):Int):=by rw[kqo _ (by omega)];omega
  have t:((a+k:Nat):Int)<(G.length:Int):=(by omega);have u:(0:Int)<=((a+k:Nat):Int):=(by omega);obtain⟨p,d⟩:=xq (a+k);rw[d] at j f e h t u;obtain⟨x,g⟩:=xq (wd G p);rw[g] at j f e;clear d g;by_cases d:x=0
  .have g:=y5 (f.out d);subst d;go_wp2_with fail
   go_round
   case rel=>exact⟨k+1,by omega,by go_num,g⟩
   case measure=>simp[intOf];omega
  have g:=y5 (e.out d);have e1:((x:Int) != 0)=true:=(by rw[kqx];omega);have e1n:(x != 0)=true:=by rw[kqx];exact d
  clear d;go_wp2;go_ret;exact⟨by rw[g.out];rfl,rfl⟩
 have g:Hid (fF G a=true):=y5 (m.out.2 λi r=>o.out i (by omega));obtain rfl:k=8:=(by omega);go_wp2;go_ret;exact⟨by rw[g.out];rfl,rfl⟩
theorem pO(A:Option Addr)(O:List Bk)(c n v:Nat)(w:World)(f:O.length=n)(hm:n<=1000000)(d:RdB w w.heap.size A O)(a:∀b∈O,0<=b.at_/\b.at_<=1000000):
 Calls prog 156 #[.slice A n c,.int .u64 (v:Int)] w λe g=>(∃r:Int,e=.returned (.int .i64 r)/\decide (r<0) = !mw O v)/\w=g:=by
 subst f;obtain⟨o,m⟩:=yq0 d a;clear d a;go_enter func156,ntmps156;go_wp2_with fail
 go_loop [5] (λi=>∃k:Nat,k<=O.length/\i=.int .i64 k/\Hid (∀j (e:j<O.length),j<k->O[j].at_≠(v:Int))) (λi=>O.length-(intOf i).toNat)
 case atStart=>exact⟨0,kqv _,rfl,y5 λj e h=>absurd h (by omega)⟩
 obtain⟨k,hk,rfl,l⟩:=hrel;by_cases d:k<O.length
 .obtain ⟨b,off,rfl,hb,q,-⟩:=RdB.at_ o.out d;obtain⟨s,t⟩:=m.out _ (kqp d);have f:Hid (O[k].at_≠(v:Int)->∀j (e:j<O.length),j<k+1->O[j].at_≠(v:Int)):=y5 λh j e h2=>by
   rcases kq8 j k with a|a
   .exact l.out j e a
   have:j=k:=(by omega);subst this;exact h
  have i:=y5 (λh=>Hj (v:=v) d h);obtain⟨x,a⟩:=xq (O[k].at_);rw[a] at q f i s t;have i1:IntKind.u64.wrap x=x:=kzi _ (by omega);have hki:(k:Int)<(O.length:Int):=(by omega);have hk0:(0:Int)<=(k:Int):=(by omega);clear a;by_cases a:x=(v:Int)
  .have h:=y5 (i.out a);have p:(x==(v:Int))=true:=by rw[kqw];exact a
   clear a f;go_wp2;go_ret;exact⟨⟨k,rfl,by rw[h.out];rw[decide_eq_false];rfl;omega⟩,rfl⟩
  have g:=y5 (f.out a);have p:(x==(v:Int))=false:=by rw[kqc];exact a
  clear a f;go_wp2_with fail
  go_round
  case rel=>exact⟨k+1,by omega,by go_num,g⟩
  case measure=>simp[intOf];omega
 have h:Hid (mw O v=false):=y5 (IP λj e=>l.out j e (by omega));obtain rfl:k=O.length:=(by omega);go_wp2;go_ret;exact⟨⟨-1,rfl,by rw[h.out];rfl⟩,rfl⟩
theorem rm(A:Option Addr)(l:List Bk)(c n:Nat)(w:World)(d:l.length=n)(hm:n<=1000000)(b:RdB w w.heap.size A l):
 Calls prog 154 #[.slice A n c] w λe a=>(∃A k c,e=.returned (.slice A k c)/\k=(aP l).length/\k<=c/\RdB a a.heap.size A (aP l))/\Below w.heap.size w a:=by
 subst d;have K:=y5 b;clear b;obtain⟨M,e,a,b,d⟩:=kzh kQ;obtain⟨J,p,q,r⟩:=yq2 e a b d;clear e a b d;go_enter func154,ntmps154;go_wp2_with fail;go_loopw [3,4] (λv i wr=>∃k:Nat,k<=l.length/\i=.int .i64 k/\wr.ownsRow w.heap.size 55 6 v (aP (l.take k)).length ((aP (l.take k)).flatMap Bk.cells)/\Below w.heap.size w wr) (λ_ i _=>l.length-(intOf i).toNat)
 case atStart=>exact⟨0,kqv _,rfl,kq3 _ _ _ _,kqe _ _⟩
 obtain⟨k,hk,rfl,a,h⟩:=hrel;have u:=h.size;by_cases m:k<l.length
 .obtain ⟨b,off,rfl,hb,v,y,z,B,C,D⟩:=RdB.at_ (Rd.below K.out h) m;have d:=y5 (rS m);have j:(aP (l.take k)).length<=k:=by unfold aP;have:=kxz (λb:Bk=>b.kind==1) (l.take k);rw[kq6] at this;omega
  obtain⟨x,f⟩:=xq (l[k]);rw[f] at v y z B C D d;obtain⟨E,H,t,I,F,G⟩:=x;dsimp only at v y z B C D d;obtain⟨L,e⟩:=xq (aP (l.take k));rw[e] at a d j;have hki:(k:Int)<(l.length:Int):=(by omega);have hk0:(0:Int)<=(k:Int):=(by omega);clear f e;by_cases e:t=1
  .have g:Hid (aP (l.take (k+1))=L++[⟨E,H,t,I,F,G⟩]):=y5 (by rw[d.out,if_pos e]);subst e;clear d;go_wp2_with (at_builtin;refine kq7 _ rfl _ _ 48 rfl w.heap.size 55 M _ 6 48 underlying48 J.out p.out q.out r.out rfl (by decide) _ _ _ rfl (a.alloc _) ⟨_,0,none⟩ 1 1 [.int .i64 E,.int .i64 H,.int .i64 1,.int .i64 I,.bool F,.int .u64 (G:Int)] rfl rfl (bc _ _ _) (by simp[Value.oneCell']) (by unfold maxLen;omega) (by omega) (cr u) ?_;intro v1 w6 f i _;have o:=y5 (ay h u a i);have s:=y5 f;clear f i);go_roundw;exact⟨k+1,by omega,by go_num,by rw[g.out,ce,kqu];exact s.out,o.out⟩;simp[intOf];omega
  have g:Hid (aP (l.take (k+1))=L):=y5 (by rw[d.out,if_neg e,kzf]);have e1:(t==1)=false:=by rw[kqc];exact e
  clear d e;go_wp2;go_roundw;exact⟨k+1,by omega,by go_num,by rw[g.out];exact a,h⟩;simp[intOf];omega
 obtain rfl:k=l.length:=(by omega);rw[kzb] at a;obtain⟨f,e,rfl⟩:=aw a;have b:=y5 (show (aP l).length<=e by
  rcases a.2 with⟨d,i⟩|⟨g,cap,cur,d,-,-,i,-⟩
  .simp only[Value.slice.injEq] at d;omega
  simp only[Value.slice.injEq] at d;omega)
 have d:=y5 (Rd.of_own a);clear a;go_wp2;go_ret;exact⟨⟨f,_,e,rfl,rfl,b.out,d.out⟩,h⟩
def nU:Op->Bool
 | .move _ | .assign _ | .pick _ _ _ | .load _ _ | .build _ _ | .binOp _ _ _ _ _ | .unOp _ _ _ | .convert _ _ _ | .slice _ _ _ _ _ | .fieldAddr _ _ _ | .field _ _ _ | .indexAddr _ _ _ | .index _ _ _ | .extract _ _=>true
 | _=>false
structure SW (S:World->Prop) where
 w:World
 ok:S w
theorem cls_of{S:World->Prop}(h:S w):∃g:SW S,w=g.w:=⟨⟨w,h⟩,rfl⟩
theorem cX{α:Type}(f:α->Value)(s:Sem α):∀w,(∃u w',(s.bind λx=>Sem.pure (Next.value (f x))).run P w=.ok (.value u) w')\/∃h w',(s.bind λx=>Sem.pure (Next.value (f x))).run P w=.halt h w':=by
 induction s with
 | pure a=>intro w;exact .inl ⟨f a,w,rfl⟩
 | load m a k b =>
  intro w;simp only[Sem.bind,Sem.run];split
  .exact b _ w
  split
  .exact b _ w
  exact .inr ⟨_,_,rfl⟩
 | store m a v k b =>
  intro w;cases v<;>simp only[Sem.bind,Sem.run]<;>first
   | exact .inr ⟨_,_,rfl⟩
   | (
    split
    .split
     .exact .inr ⟨_,_,rfl⟩
     exact b _
    split
    .exact b _
    exact .inr ⟨_,_,rfl⟩)
 | new o k b=>intro w;exact b _ _
 | shape r k b=>intro w;exact b _ _
 | freeze a n k b=>intro w;exact b _
 | frozen a k b=>intro w;exact b _ _
 | getObj r k b =>
  intro w;simp only[Sem.bind,Sem.run];split
  .exact .inr ⟨_,_,rfl⟩
  .exact b _ w
  exact .inr ⟨_,_,rfl⟩
 | setObj r o k b =>
  intro w;simp only[Sem.bind,Sem.run];split
  .exact .inr ⟨_,_,rfl⟩
  .exact b _
  exact .inr ⟨_,_,rfl⟩
 | choose q k b =>
  intro w;simp only[Sem.bind,Sem.run];split
  .exact b _ _
  exact b _ _
 | sys c k b=>intro w;exact b _ _
 | program k b=>intro w;exact b _ _
 | mark m k b=>intro w;exact b _
 | halt h=>intro w;exact .inr ⟨h,w,rfl⟩
theorem yp{ρ:Operand->Value}(h:nU o.op=true)(w:World):(∃u w',(execOp ρ o).run P w=.ok (.value u) w')\/∃h w',(execOp ρ o).run P w=.halt h w':=by
 unfold execOp;unfold nU at h;split at h
 .rename_i x e;rw[e];exact .inl ⟨_,w,rfl⟩
 .rename_i x e;rw[e];exact .inl ⟨_,w,rfl⟩
 .rename_i c a b e;rw[e];exact cX _ _ w
 .rename_i e;rw[e];exact cX id _ w
 .rename_i e;rw[e];exact cX id _ w
 .rename_i e;rw[e];exact cX id _ w
 .rename_i e;rw[e];exact cX id _ w
 .rename_i e;rw[e];exact cX id _ w
 .rename_i e;rw[e];exact cX id _ w
 .rename_i e;rw[e];exact cX id _ w
 .rename_i e;rw[e];exact cX id _ w
 .rename_i e;rw[e];exact cX id _ w
 .rename_i e;rw[e];exact cX id _ w
 .rename_i e;rw[e];exact cX id _ w
 cases h
theorem uq{C:World->Prop}{a:Act}{v:Value}(h:nU o.op=true)(b:o.quietAt P a C w v):(execOp a.eval o).run P w=.ok (.value v) w:=by
 unfold Oper.quietAt at b;rcases yp (P:=P) (ρ:=a.eval) h w with⟨u,c,e⟩|⟨h',c,e⟩
 .rw[e] at b |-;obtain⟨rfl,rfl⟩:=b;rfl
 rw[e] at b;exact False.elim b
inductive It where
 | one (o:Oper) (tk:Bool) (gd:Option (Option Tmp × Bool))
 | two (o1 o2:Oper) (gd:Option (Option Tmp × Bool))
def gOk (gd:Option (Option Tmp × Bool)) (tmps:Array Value):Bool:=match gd with
 | none=>true
 | some (d,b)=>(match d.bind (tmps[·]?) with
  | some (.bool x)=>some x
  | _=>none)==some b
def uj (ops:Array Oper) (o:Oper):Option (Option Tmp × Bool):=match o.guard with
 | none=>none
 | some (g,b)=>some ((ops.toList[g]?).bind (·.dst),b)
theorem fo(c:Array Oper)(o:Oper)(a:Array Value):Region.wanted o (yielded c a)=gOk (uj c o) a:=by
 unfold Region.wanted uj gOk;split
 .rename_i h;rw[h]
 rename_i j b h;rw[h];simp only[kvh];rfl
def EK (ops:Array Oper):List (Nat × Nat × Nat)->List It
 | []=>[]
 | (k,i,j)::r=>match ops.toList[i]? with
  | none=>[]
  | some o=>match k with
   | 0=>.one o true (uj ops o)::EK ops r
   | 2=>(match ops.toList[j]? with
    | none=>[]
    | some o2=>.two o o2 (uj ops o)::EK ops r)
   | _=>.one o false (uj ops o)::EK ops r
def mp:List (Nat × Nat × Nat)->Nat
 | []=>0
 | (k,_,_)::r=>(if k=2 then 2 else 1)+mp r
def mr (md:Region.Mode) (ops:Array Oper):List (Nat × Nat × Nat)->Array Bool->Bool
 | [],listed=>(Region.ready md ops listed).isEmpty
 | (k,i,j)::r,listed=>if k=2 then
  (match ops[i]?,ops[j]? with
   | some o1,some o2=>uj ops o1==uj ops o2
   | _,_=>false)&&(Region.ready md ops listed==[i,j]&&(Region.ready md ops (listed.setIfInBounds i true)==[j]&&(Region.ready md ops (listed.setIfInBounds j true)==[i]&&(i != j&&mr md ops r ((listed.setIfInBounds i true).setIfInBounds j true)))))
  else (ops[i]?).any (λo=>if k=0 then nU o.op&&(Region.free md ops listed i&&(Region.ready md ops listed).contains i) else Region.ready md ops listed==[i])&&mr md ops r (listed.setIfInBounds i true)
def ng (md:Region.Mode) (ops:Array Oper):List (Nat × Nat × Nat)->Array Bool->Bool
 | [],_=>true
 | (k,i,j)::r,listed=>if k=2 then
  (match ops[i]?,ops[j]? with
   | some o1,some o2=>uj ops o1==uj ops o2
   | _,_=>false)&&(Region.ready md ops listed==[i,j]&&(Region.ready md ops (listed.setIfInBounds i true)==[j]&&(Region.ready md ops (listed.setIfInBounds j true)==[i]&&(i != j&&ng md ops r ((listed.setIfInBounds i true).setIfInBounds j true)))))
  else (ops[i]?).any (λo=>if k=0 then nU o.op&&(Region.free md ops listed i&&(Region.ready md ops listed).contains i) else Region.ready md ops listed==[i])&&ng md ops r (listed.setIfInBounds i true)
def lq:List (Nat × Nat × Nat)->Array Bool->Array Bool
 | [],listed=>listed
 | (k,i,j)::r,listed=>lq r (if k=2 then (listed.setIfInBounds i true).setIfInBounds j true else listed.setIfInBounds i true)
theorem zu{md:Region.Mode}{l2:List (Nat × Nat × Nat)}:∀(b:List (Nat × Nat × Nat)) {a:Array Bool},ng md ops b a=true->mr md ops l2 (lq b a)=true->mr md ops (b++l2) a=true:=by
 intro b
 induction b with
 | nil=>intro a _ h;exact h
 | cons x b f =>
  intro a c d;obtain⟨k,i,j⟩:=x;by_cases e:k=2
  .subst e;simp only[ng,if_true,kqs] at c;simp only[lq,if_true] at d;obtain⟨g,h,l,m,n,o⟩:=c;rw[kzq];simp only[mr,if_true,kqs];exact⟨g,h,l,m,n,f o d⟩
  simp only[ng,e,if_false,kqs] at c;simp only[lq,e,if_false] at d;rw[kzq];simp only[mr,e,if_false,kqs];exact⟨c.1,f c.2 d⟩
def iH (P:Program) (Q:Exit->Act->World->Prop) (S:World->Prop):List It->Act->World->Prop
 | [],a,w=>Q .normal a w
 | .one o t g::r,a,w=>if gOk g a.tmps=true then (if t=true then o.quiet P a (λX=>∃g:SW S,X=g.w) (λa'=>iH P Q S r a' w) else o.wp P a w (λa' w'=>S w'/\iH P Q S r a' w') Q) else iH P Q S r (a.put o.dst undef) w
 | .two o1 o2 g::r,a,w=>if gOk g a.tmps=true then
  (
   o1.wp P a w (λa1 w1=>S w1/\gOk g a1.tmps=true/\o2.wp P a1 w1 (λa2 w2=>S w2/\iH P Q S r a2 w2) Q) Q /\
   o2.wp P a w (λa1 w1=>S w1/\gOk g a1.tmps=true/\o1.wp P a1 w1 (λa2 w2=>S w2/\iH P Q S r a2 w2) Q) Q) else False
section
variable {P:Program} {Q:Exit->Act->World->Prop} {S:World->Prop} {r:List It} {a:Act} {w:World} {o o1 o2:Oper} {g:Option (Option Tmp × Bool)}
theorem E8(b:gOk g a.tmps=true)(h:∀K:Act->Prop,(∀a',iH P Q S r a' w->K a')->o.quiet P a (λX=>∃g:SW S,X=g.w) K):iH P Q S (.one o true g::r) a w:=by unfold iH;rw[if_pos b,if_pos rfl];exact h _ λ_ h=>h
theorem seq_do(d:gOk g a.tmps=true)(h:∀K:Act->World->Prop,(∀a' w',S w'->iH P Q S r a' w'->K a' w')->o.wp P a w K Q):iH P Q S (.one o false g::r) a w:=by unfold iH;rw[if_pos d,if_neg (by decide)];exact h _ λ_ _ b c=>⟨b,c⟩
theorem Fd{t:Bool}(b:gOk g a.tmps=false)(h:iH P Q S r (a.put o.dst undef) w):iH P Q S (.one o t g::r) a w:=by unfold iH;rw[if_neg (by rw[b];decide)];exact h
theorem AX(H:Region.noSelect ops=true)(F:∀c a d v w,Q (.panic c) (a.put d v) w->Q (.panic c) a w):∀(l:List (Nat × Nat × Nat)) (b:Nat) (e:Array Bool) (a:Act) (w:World),mp l<=b->mr .any ops l e=true->S w->iH P Q S (EK ops l) a w->wpAnyH P .any ops Q S b e a w:=by
 intro l
 induction l with
 | nil =>intro b e a w _ p _ h;exact kx0 (List.isEmpty_iff.1 p) h b
 | cons x l z =>
  intro b e a w G p y h;obtain⟨k,i,j⟩:=x;by_cases A:k=2
  .subst A;simp only[mp,if_true] at G;obtain⟨b,rfl⟩:∃f,b=f+1+1:=⟨b-2,by omega⟩;have t:mp l<=b:=(by omega);simp only[mr,if_true,kqs] at p;obtain⟨g,u,L,M,N,E⟩:=p;cases n:ops[i]? with
   | none=>rw[n] at g;cases g
   | some I =>
    cases o:ops[j]? with
    | none=>rw[n,o] at g;cases g
    | some m =>
     rw[n,o] at g;have x:uj ops I=uj ops m:=by simpa using g
     simp only[EK,kvh,n,o] at h;unfold iH at h;cases m:gOk (uj ops I) a.tmps with
     | false=>rw[if_neg (by rw[m];decide)] at h;exact h.elim
     | true =>
      rw[if_pos m] at h;refine wpAnyH_all (rs:=[i,j]) (by simpa using u) (by simp) λq B=>?_;have C:i≠j:=by simpa using N
      rcases kq0.1 B with rfl|B
      .unfold wpOp;simp only[n];rw[fo,m,if_pos rfl];refine .inl (Oper.wp_mono (λJ O s=>⟨s.1,?_⟩) h.1);refine wpAnyH_all (rs:=[j]) (by simpa using L) (by simp) λD q=>?_;rw[kq2] at q;subst q;unfold wpOp;simp only[o];rw[fo,<-x,s.2.1,if_pos rfl];exact .inl (Oper.wp_mono (λK R r=>⟨r.1,z b _ _ _ t E r.1 r.2⟩) s.2.2)
      rw[kq2] at B;subst B;unfold wpOp;simp only[o];rw[fo,<-x,m,if_pos rfl];refine .inl (Oper.wp_mono (λJ O s=>⟨s.1,?_⟩) h.2);refine wpAnyH_all (rs:=[i]) (by simpa using M) (by simp) λD q=>?_;rw[kq2] at q;subst q;unfold wpOp;simp only[n];rw[fo,s.2.1,if_pos rfl];refine .inl (Oper.wp_mono (λK R r=>⟨r.1,?_⟩) s.2.2);rw[Array.setIfInBounds_comm _ _ (Ne.symm C)];exact z b _ _ _ t E r.1 r.2
  simp only[mp,A,if_false] at G;obtain⟨b,rfl⟩:∃f,b=f+1:=⟨b-1,by omega⟩;have t:mp l<=b:=(by omega);simp only[mr,A,if_false,kqs] at p;obtain⟨g,u⟩:=p;cases n:ops[i]? with
  | none=>rw[n] at g;simp at g
  | some o =>
   rw[n] at g;simp only[Option.any_some] at g;simp only[EK,kvh,n] at h;by_cases q:k=0
   .subst q;unfold iH at h;simp only[if_true] at g h;simp only[kqs] at g;obtain⟨x,r,s⟩:=g;cases m:gOk (uj ops o) a.tmps with
    | true =>rw[if_pos m] at h;obtain⟨v,C,D⟩:=h;exact kkz n H r s (λc a w=>F c a _ v w) (.inl ⟨by rw[fo];exact m,λX B=>uq x (C X (cls_of B))⟩) y (z b _ _ _ t u y D)
    | false =>rw[if_neg (by rw[m];decide)] at h;exact kkz n H r s (λc a w=>F c a _ undef w) (.inr ⟨by rw[fo];exact m,rfl⟩) y (z b _ _ _ t u y h)
   have hkb:(k==0)=false:=by rw[kqc];exact q
   simp only[q,if_false] at g;have h:iH P Q S (.one o false (uj ops o)::EK ops l) a w:=by
    match k,A,q,h with
    | 1,_,_,h=>exact h
    | k+3,_,_,h=>exact h
   unfold iH at h;refine wpAnyH_all (rs:=[i]) (by simpa using g) (by simp) λj c=>?_;rw[kq2] at c;subst c;unfold wpOp;simp only[n];cases m:gOk (uj ops o) a.tmps with
   | true =>rw[if_pos m,if_neg (by decide)] at h;rw[fo,m,if_pos rfl];exact .inl (Oper.wp_mono (λa' w' h=>⟨h.1,z b _ _ _ t u h.1 h.2⟩) h)
   | false =>rw[if_neg (by rw[m];decide)] at h;rw[fo,m,if_neg (by decide)];exact⟨y,z b _ _ _ t u y h⟩
theorem pW(l:List (Nat × Nat × Nat))(L:List It)(j:P.follows .mixedOrders=true)(k:Region.noSelect ops=true)(i:mp l<=ops.size)(b:mr .any ops l (Array.replicate ops.size false)=true)(e:EK ops l=L)(f:∀c a d v w,Q (.panic c) (a.put d v) w->Q (.panic c) a w)(g:S w.drew)(h:iH P Q S L a w.drew):(Code.region id ops true).wp P Q a w:=by subst e;exact wp_region_held j (AX k f l ops.size _ a w.drew i b g h)
structure SqG (P:Program) (Q:Exit->Act->World->Prop) (S:World->Prop) (l:List It) (a:Act) (w:World):Prop where
 out:iH P Q S l a w
theorem Gm(h:Q .normal a w):SqG P Q S [] a w:=⟨h⟩
theorem nf(e:gOk g a.tmps=true)(h:∀K:Act->Prop,(∀b,SqG P Q S r b w->K b)->o.quiet P a (λX=>∃g:SW S,X=g.w) K):SqG P Q S (.one o true g::r) a w:=⟨E8 e λK d=>h K λb c=>d b c.out⟩
theorem sq_do(i:gOk g a.tmps=true)(h:∀K:Act->World->Prop,(∀c b,S b->SqG P Q S r c b->K c b)->o.wp P a w K Q):SqG P Q S (.one o false g::r) a w:=⟨seq_do i λK e=>h K λc b f d=>e c b f d.out⟩
theorem jg{t:Bool}(b:gOk g a.tmps=false)(h:SqG P Q S r (a.put o.dst undef) w):SqG P Q S (.one o t g::r) a w:=⟨Fd b h.out⟩
theorem sm(l:List (Nat × Nat × Nat))(L:List It)(j:P.follows .mixedOrders=true)(k:Region.noSelect ops=true)(i:mp l<=ops.size)(b:mr .any ops l (Array.replicate ops.size false)=true)(e:EK ops l=L)(f:∀c a d v w,Q (.panic c) (a.put d v) w->Q (.panic c) a w)(g:S w.drew)(h:SqG P Q S L a w.drew):(Code.region id ops true).wp P Q a w:=pW l L j k i b e f g h.out
end
def RdL (w:World) (B:Nat) (A:Option Addr) (L:List Ty):Prop:=Rd w B A (L.flatMap Ty.cells)/\∀x∈L,RdY w B x.A x.l
theorem RdL.up{B':Nat}(h:RdL w B A L)(b:Below B w w')(a:B<=B'):RdL w' B' A L:=⟨h.1.up b a,λx c=>(h.2 x c).up b a⟩
theorem RdL.of_own{n c:Nat}(h:vm w H (.slice A n c) L)(a:L.length=n):RdL w w.heap.size A L:=by subst a;exact⟨Rd.of_own h.1,λx a=>Rd.of_own (h.2 x a)⟩
theorem rE(A T Y:Option Addr)(G:List Nat)(L:List Ty)(O:List Bk)(c n tc V oc on m z a f r:Nat)(u:Int)(j:Bool)(w:World)(d:L.length=V)(v:∀x∈L,x.l.length<=8)(Z:r=7\/r=8)(b:RdL w w.heap.size T L):
 Calls prog 155 #[.slice A n c,.slice T V tc,.slice Y on oc,.agg #[.int .i64 (m:Int),.int .i64 (z:Int),.int .i64 u,.int .i64 (a:Int),.bool j,.int .u64 (f:Int)],.int .i64 (r:Int)] w λe g=>e=.returned (.bool (wrB G (L.map Ty.l) O m z a j f r))/\Below w.heap.size w g:=by
 subst d;obtain⟨B,t⟩:=yq0 (b.up ((kqe w.heap.size w).alloc (kqa _) (.cells #[.int .i64 (m:Int),.int .i64 (z:Int),.int .i64 u,.int .i64 (a:Int),.bool j,.int .u64 (f:Int)] 55)) (kqa _)) ((kqe w.heap.size w).alloc (kqa _) (.cells #[.int .i64 (m:Int),.int .i64 (z:Int),.int .i64 u,.int .i64 (a:Int),.bool j,.int .u64 (f:Int)] 55));have d:=Bx.new w 55 #[.int .i64 (m:Int),.int .i64 (z:Int),.int .i64 u,.int .i64 (a:Int),.bool j,.int .u64 (f:Int)];have C:=y5 d;clear b d;rcases Z with rfl|rfl
 .have k:Hid (wrB G (L.map Ty.l) O m z a j f 7=(j||decide (0<f))):=y5 rfl;have D:decide ((0:Int)<(f:Int))=decide (0<f):=(by rw[decide_eq_decide];omega);obtain⟨q,h⟩:=xq (decide (0<f));rw[h] at k D;clear B;(try simp only[kq1]);cases j
  all_goals
   go_enter func155,ntmps155;go_wp2;go_ret;exact⟨by rw[k.out];rfl,t.out⟩
 by_cases d:a<L.length
 .obtain ⟨b,J,rfl,hb,E⟩:=pB B.out.1 d;have U:=v _ (kqp d);have k:Hid (wrB G (L.map Ty.l) O m z a j f 8=(bp L[a].l.length != z)):=y5 (by
   show (!decide (a<(L.map Ty.l).length)||bp (((L.map Ty.l)[a]?).getD []).length != z)=_;rw[kzw,decide_eq_true d,kxk,kqg d];rfl)
  obtain⟨x,s⟩:=xq (L[a]);rw[s] at E U k;obtain⟨xA,xc,g⟩:=x;dsimp only at E U k;have R:=y5 (λW=>xU g.length W (by omega));have I:bp g.length<=10:=by unfold bp;omega
  have D:(((bp g.length:Nat):Int) != (z:Int))=(bp g.length != z):=by rw[kzk,kqx,kqx];omega
  obtain⟨o,i⟩:=xq (bp g.length);rw[i] at k R I D;obtain⟨q,h⟩:=xq ((o != z));rw[h] at k D;have W:decide ((L.length:Int)<=(a:Int))=false:=(by rw[kqb];omega);have H:decide (L.length<=a)=false:=(by rw[kqb];omega);have j1:(a:Int)<(L.length:Int):=(by omega);have j0:(0:Int)<=(a:Int):=(by omega);(try simp only[kq1]);clear s i h v d;obtain⟨K,F,M,y,N,P,Q,s⟩:=C.out.c6;obtain⟨i,h⟩:∃i,w.alloc (.cells #[.int .i64 (m:Int),.int .i64 (z:Int),.int .i64 u,.int .i64 (a:Int),.bool j,.int .u64 (f:Int)] 55)=i:=⟨_,rfl⟩;go_enter func155,ntmps155;go_wp2_with fail;rw[h] at t F y E;clear h K M N P Q C B s
  go_region_held3 (λX:World=>X.cell? ⟨w.heap.size,1,none⟩=some (.int .i64 (z:Int))/\X.cell? ⟨w.heap.size,3,none⟩=some (.int .i64 (a:Int))/\X.cell? ⟨b,J+a,none⟩=some (.slice xA g.length xc)) (go_keep)
   (first | (go_at_call 214;refine (R.out _).mono ?_;rintro e w5 ⟨rfl,rfl⟩;have m0:=F;have m1:=y;have m2:=E))
  clear m0 m1 m2;go_wp2;go_ret;exact⟨by rw[k.out];rfl,t.out.drew⟩
 have k:Hid (wrB G (L.map Ty.l) O m z a j f 8=true):=y5 (by
  show (!decide (a<(L.map Ty.l).length)||bp (((L.map Ty.l)[a]?).getD []).length != z)=_;rw[kzw,decide_eq_false d];rfl)
 have W:decide ((L.length:Int)<=(a:Int))=true:=(by rw[kqh];omega);have H:decide (L.length<=a)=true:=(by rw[kqh];omega);obtain⟨K,F,M,y,N,P,Q,s⟩:=C.out.c6;(try simp only[kq1]);clear d;go_enter func155,ntmps155;go_wp2_with fail;obtain⟨i,h⟩:∃i,w.alloc (.cells #[.int .i64 (m:Int),.int .i64 (z:Int),.int .i64 u,.int .i64 (a:Int),.bool j,.int .u64 (f:Int)] 55)=i:=⟨_,rfl⟩;rw[h] at t y s |-;clear h K F M N P Q C B;have ct3:∀g:SW (λX:World=>Below i.heap.size i X),g.w.cell? ⟨w.heap.size,3,none⟩=some (.int .i64 (a:Int)):=λg=>(g.ok.cell (p:=⟨w.heap.size,3,none⟩) s).trans y
 refine sm (S:=λX:World=>Below i.heap.size i X) ((0,0,0)::(0,1,0)::(0,2,0)::(1,3,0)::(0,4,0)::(0,5,0)::(0,6,0)::(0,7,0)::(0,8,0)::(0,9,0)::(0,10,0)::(0,13,0)::(0,14,0)::(1,11,0)::(1,12,0)::(0,15,0)::(0,16,0)::(0,17,0)::[]) (.one _ true (none)::.one _ true (none)::.one _ true (none)::.one _ false (none)::.one _ true (none)::.one _ true (none)::.one _ true (some (some 30,false))::.one _ true (some (some 30,false))::.one _ true (some (some 30,false))::.one _ true (some (some 30,false))::.one _ true (some (some 30,false))::.one _ true (some (some 30,false))::.one _ true (some (some 30,false))::.one _ false (some (some 30,false))::.one _ false (some (some 30,false))::.one _ true (some (some 30,false))::.one _ true (none)::.one _ true (none)::[]) (by kernel_rfl) (by kernel_rfl) (by decide) (by show mr _ _ (((0,0,0)::(0,1,0)::(0,2,0)::(1,3,0)::(0,4,0)::(0,5,0)::(0,6,0)::(0,7,0)::(0,8,0)::(0,9,0)::[])++(((0,10,0)::(0,13,0)::(0,14,0)::(1,11,0)::(1,12,0)::(0,15,0)::(0,16,0)::(0,17,0)::[]))) _=true;refine zu _ (by as_aux_lemma=>kernel_rfl) ?_;(as_aux_lemma=>kernel_rfl)) (by rfl) (λ_ _ d _ _ h=>by cases d<;>exact h) (kqe _ _).drew ?_;have b:=y5 ((kqe i.heap.size i).drew);obtain⟨e,d⟩:=xq i.drew
 rw[d] at b |-;clear d;have hne:Nonempty (SW (λX:World=>Below i.heap.size i X)):=⟨⟨e,b.out⟩⟩
 iterate 3 (first | (refine jg (by rfl) ?_;(try simp only[Act.put,kqd,kqk,kqj])) | (refine nf (by rfl) ?_;intro K d;go_big_quiet_op;go_big_quiet_on))
 (first | (refine jg (by rfl) ?_;(try simp only[Act.put,kqd,kqk,kqj])) | (refine sq_do (by rfl) ?_;intro K d;go_big_op;refine d _ _ b.out ?_;clear d K;(try simp only[Act.put,kqd,kqk,kqj])))
 iterate 9 (first | (refine jg (by rfl) ?_;(try simp only[Act.put,kqd,kqk,kqj])) | (refine nf (by rfl) ?_;intro K d;go_big_quiet_op;go_big_quiet_on))
 (first | (refine jg (by rfl) ?_;(try simp only[Act.put,kqd,kqk,kqj])) | (refine sq_do (by rfl) ?_;intro K d;go_big_op;refine d _ _ b.out ?_;clear d K;(try simp only[Act.put,kqd,kqk,kqj])))
 (refine jg (by rfl) ?_;(try simp only[Act.put,kqd,kqk,kqj]))
 iterate 3 (first | (refine jg (by rfl) ?_;(try simp only[Act.put,kqd,kqk,kqj])) | (refine nf (by rfl) ?_;intro K d;go_big_quiet_op;go_big_quiet_on))
 refine Gm ?_;go_wp2;go_ret;exact⟨by rw[k.out];rfl,t.out.trans (b.out.mono t.out.size)⟩
theorem th(A TA OA:Option Addr)(G:List Nat)(L:List Ty)(O:List Bk)(c n tc tn oc on m z g E r:Nat)(xk:Int)(D:Bool)(w:World)(hn:G.length=n)(Kk:O.length=on)(hm:n<=2048)(ho1:on<=2048)(a:L.length=tn)(Kb:g<L.length)(Ke:L[g].l.length<=8)(U:z=bp L[g].l.length)(hmz:m+z<=n)(hr:r=9\/r=10\/r=11)(j:RdL w w.heap.size TA L)(o:RdW w w.heap.size A G)(k:RdB w w.heap.size OA O)(h:∀b∈O,0<=b.at_/\b.at_<=1000000):
 Calls prog 155 #[.slice A n c,.slice TA tn tc,.slice OA on oc,.agg #[.int .i64 (m:Int),.int .i64 (z:Int),.int .i64 xk,.int .i64 (g:Int),.bool D,.int .u64 (E:Int)],.int .i64 (r:Int)] w λe d=>e=.returned (.bool (wrB G (L.map Ty.l) O m z g D E r))/\Below w.heap.size w d:=by
 subst a hn Kk;have J:=(kqe w.heap.size w).alloc (kqa _) (.cells #[.int .i64 (m:Int),.int .i64 (z:Int),.int .i64 xk,.int .i64 (g:Int),.bool D,.int .u64 (E:Int)] 55);have f:=j.up J (kqa _);obtain⟨M,K,Y,H⟩:=yq2 (o.up J J.size) (k.up J J.size) h J;have C:bp L[g].l.length<=10/\L[g].l.length+2<=bp L[g].l.length:=by unfold bp;omega
 obtain⟨q0,q1,q,q3,s,t,u,P⟩:=(Bx.new w 55 #[.int .i64 (m:Int),.int .i64 (z:Int),.int .i64 xk,.int .i64 (g:Int),.bool D,.int .u64 (E:Int)]).c6;obtain⟨b,off,rfl,hb,p0⟩:=pB f.1 Kb;have d:=f.2 _ (kqp Kb);have a:Hid (∀F,L[g].l=F->wrB G (L.map Ty.l) O m z g D E r=(if r=7 then D||decide (0<E) else if r=8 then !decide (g<(L.map Ty.l).length)||bp F.length != z else if r=9 then decide (F.length+2<z)&&wd G (m+2+F.length) != 0 else (List.range F.length).any λi=>wrF G F O m r i)):=y5 λF p=>by
  unfold wrB;rw[kxk,kqg Kb];simp only[kzs,kq9,p]
 obtain⟨x,p⟩:=xq (L[g]);rw[p] at p0 Ke U C d a;obtain⟨xA,xc,F⟩:=x;dsimp only at p0 Ke U C d a;obtain⟨Z,HF⟩:=yq0 (a.out F rfl) d;rw[<-U] at C;have j1:(g:Int)<(L.length:Int):=(by omega);have j0:(0:Int)<=(g:Int):=(by omega);have HZ:=y5 U;clear p a f j o k h d U q s t u;rcases hr with rfl|rfl|rfl
 .have y:Hid (wrB G (L.map Ty.l) O m z g D E 9=(decide (F.length+2<z)&&wd G (m+2+F.length) != 0)):=y5 Z.out;have w1:IntKind.i64.wrap ((z:Int)-2)=(z:Int)-2:=kqo _ (by omega);have w2:IntKind.i64.wrap ((m:Int)+2)=(m:Int)+2:=kqo _ (by omega);have w3:IntKind.i64.wrap ((m:Int)+2+(F.length:Int))=((m+2+F.length:Nat):Int):=by rw[kqo _ (by omega)];omega
  (try simp only[kq1]);by_cases a:F.length+2<z
  .obtain ⟨bw,ow,rfl,Kd,N⟩:=RdW.at_ M.out (show m+2+F.length<G.length by omega);rw[<-bY] at N;have d1:decide ((F.length:Int)<(z:Int)-2)=true:=(by rw[kqh];omega);rw[decide_eq_true a] at y;have k1:((m+2+F.length:Nat):Int)<(G.length:Int):=(by omega);have k0:(0:Int)<=((m+2+F.length:Nat):Int):=(by omega);obtain⟨p,u⟩:=xq (m+2+F.length);rw[u] at N y w3 k1 k0;have d:((wd G p:Int) != 0)=(wd G p != 0):=by rw[kzk,kqx,kqx];omega
   obtain⟨v,T⟩:=xq (wd G p);rw[T] at N y d;obtain⟨q,S⟩:=xq ((v != 0));rw[S] at y d;clear u T S Z HF K Y a HZ C;go_enter func155,ntmps155;go_wp2;go_ret;exact⟨by rw[y.out];rfl,H.out⟩
  have d1:decide ((F.length:Int)<(z:Int)-2)=false:=(by rw[kqb];omega);rw[decide_eq_false a] at y;clear Z HF K Y a HZ C;go_enter func155,ntmps155;go_wp2;go_ret;exact⟨by rw[y.out];rfl,H.out⟩
 .have y:Hid (wrB G (L.map Ty.l) O m z g D E 10=(List.range F.length).any λi=>wrF G F O m 10 i):=y5 Z.out;have w2:IntKind.i64.wrap ((m:Int)+2)=(m:Int)+2:=kqo _ (by omega);have Eq:Hid (∀k,k<F.length->wrF G F O m 10 k=true->wrB G (L.map Ty.l) O m z g D E 10=true):=y5 λk Q h=>by
   rw[y.out,kx1];exact⟨k,kzn.2 Q,h⟩
  have X:Hid ((∀k,k<F.length->wrF G F O m 10 k=false)->wrB G (L.map Ty.l) O m z g D E 10=false):=y5 λh=>by
   rw[y.out,kkc];intro k Q;rw[h k (kzn.1 Q)];decide
  obtain⟨R,Kc⟩:∃R,w.alloc (.cells #[.int .i64 (m:Int),.int .i64 (z:Int),.int .i64 xk,.int .i64 (g:Int),.bool D,.int .u64 (E:Int)] 55)=R:=⟨_,rfl⟩;rw[Kc] at M K HF H q0 q1 q3 p0 P;obtain⟨Kf,Kg⟩:=C;(try simp only[kq1]);clear Z y HZ q1;go_enter func155,ntmps155;go_wp2_with fail;go_loopw [12] (λi wr=>∃k:Nat,k<=F.length/\i=.int .i64 k/\Hid (∀j,j<k->wrF G F O m 10 j=false)/\Below R.heap.size R wr) (λi _=>F.length-(intOf i).toNat)
  case atStart=>exact⟨0,kqv _,rfl,y5 λj h=>absurd h (by omega),kqe _ _⟩
  obtain⟨k,Q,rfl,HP,I⟩:=hrel;have U:=I.size;by_cases B:k<F.length
  .have q0':=(I.cell (p:=⟨w.heap.size,0,none⟩) P).trans q0;obtain⟨bw,ow,rfl,Kd,N⟩:=RdW.at_ (Rd.below M.out I) (show m+2+k<G.length by omega);rw[<-bY] at N;obtain⟨bf,of,rfl,Kh,y0⟩:=RdY.at_ (Rd.below HF.out (I.mono H.out.size)) B;have HS:Hid (wrF G F O m 10 k=false->∀j,j<k+1->wrF G F O m 10 j=false):=y5 λh j hj=>by
    rcases kq8 j k with h2|h2
    .exact HP.out j h2
    have:j=k:=(by omega);subst this;exact h
   have HY:=y5 (Eq.out k B);have d:Hid (wrF G F O m 10 k=(F[k]==2 && !uA (wd G (m+2+k)))):=y5 (by
    unfold wrF;rw[kqg B]
    first | rw[if_pos rfl] | rw[if_neg (by decide)]
    rw[show ∀a b:Nat,(some a==some b)=(a==b) from λa b=>rfl])
   have w3:IntKind.i64.wrap ((m:Int)+2+(k:Int))=((m+2+k:Nat):Int):=by rw[kqo _ (by omega)];omega
   have k1:((m+2+k:Nat):Int)<(G.length:Int):=(by omega);have k0:(0:Int)<=((m+2+k:Nat):Int):=(by omega);have Kj:(k:Int)<(F.length:Int):=(by omega);have Ki:(0:Int)<=(k:Int):=(by omega);obtain⟨p,u⟩:=xq (m+2+k);rw[u] at N d w3 k1 k0;obtain⟨v,T⟩:=xq (wd G p);rw[T] at N d;obtain⟨f,hf⟩:=xq (F[k]);rw[hf] at y0 d;have s:=y5 I;clear u T hf;have V:=y5 (λW=>xE v W);by_cases Ka:f=2
   .subst Ka;have o:Hid (wrF G F O m 10 k = !uA v):=y5 (by rw[d.out];rfl);obtain⟨q,S⟩:=xq (uA v);rw[S] at V o;clear S d;cases q
    .have t:=y5 (HY.out (by rw[o.out];rfl));go_wp2_with fail;refine (V.out _).mono ?_;rintro e w5 ⟨rfl,rfl⟩;go_wp2;go_ret;exact⟨by rw[t.out];rfl,H.out.trans (s.out.mono H.out.size)⟩
    have t:=y5 (HS.out (by rw[o.out];rfl));go_wp2_with fail;refine (V.out _).mono ?_;rintro e w5 ⟨rfl,rfl⟩;go_wp2;go_roundw;exact⟨k+1,by omega,by go_num,t,s.out⟩;simp[intOf];omega
   have e1:((f:Int)==2)=false:=(by rw[kqc];omega);have t:=y5 (HS.out (by rw[d.out,show (f==2)=false by rw[kqc];exact Ka];rfl));clear Ka d;go_wp2;go_roundw;exact⟨k+1,by omega,by go_num,t,s.out⟩;simp[intOf];omega
  have t:=y5 (X.out λj hj=>HP.out j (by omega));obtain rfl:k=F.length:=(by omega);go_wp2;go_ret;exact⟨by rw[t.out];rfl,H.out.trans (I.mono H.out.size)⟩
 have y:Hid (wrB G (L.map Ty.l) O m z g D E 11=(List.range F.length).any λi=>wrF G F O m 11 i):=y5 Z.out;have w2:IntKind.i64.wrap ((m:Int)+2)=(m:Int)+2:=kqo _ (by omega);have Eq:Hid (∀k,k<F.length->wrF G F O m 11 k=true->wrB G (L.map Ty.l) O m z g D E 11=true):=y5 λk Q h=>by
  rw[y.out,kx1];exact⟨k,kzn.2 Q,h⟩
 have X:Hid ((∀k,k<F.length->wrF G F O m 11 k=false)->wrB G (L.map Ty.l) O m z g D E 11=false):=y5 λh=>by
  rw[y.out,kkc];intro k Q;rw[h k (kzn.1 Q)];decide
 obtain⟨R,Kc⟩:∃R,w.alloc (.cells #[.int .i64 (m:Int),.int .i64 (z:Int),.int .i64 xk,.int .i64 (g:Int),.bool D,.int .u64 (E:Int)] 55)=R:=⟨_,rfl⟩;rw[Kc] at M K HF H q0 q1 q3 p0 P;obtain⟨Kf,Kg⟩:=C;(try simp only[kq1]);clear Z y HZ q1;go_enter func155,ntmps155;go_wp2_with fail;go_loopw [12] (λi wr=>∃k:Nat,k<=F.length/\i=.int .i64 k/\Hid (∀j,j<k->wrF G F O m 11 j=false)/\Below R.heap.size R wr) (λi _=>F.length-(intOf i).toNat)
 case atStart=>exact⟨0,kqv _,rfl,y5 λj h=>absurd h (by omega),kqe _ _⟩
 obtain⟨k,Q,rfl,HP,I⟩:=hrel;have U:=I.size;by_cases B:k<F.length
 .have q0':=(I.cell (p:=⟨w.heap.size,0,none⟩) P).trans q0;obtain⟨bw,ow,rfl,Kd,N⟩:=RdW.at_ (Rd.below M.out I) (show m+2+k<G.length by omega);rw[<-bY] at N;obtain⟨bf,of,rfl,Kh,y0⟩:=RdY.at_ (Rd.below HF.out (I.mono H.out.size)) B;have HS:Hid (wrF G F O m 11 k=false->∀j,j<k+1->wrF G F O m 11 j=false):=y5 λh j hj=>by
   rcases kq8 j k with h2|h2
   .exact HP.out j h2
   have:j=k:=(by omega);subst this;exact h
  have HY:=y5 (Eq.out k B);have d:Hid (wrF G F O m 11 k=(F[k]==3&&(decide (0<wd G (m+2+k)) && !mw O (wd G (m+2+k))))):=y5 (by
   unfold wrF;rw[kqg B]
   first | rw[if_pos rfl] | rw[if_neg (by decide)]
   rw[show ∀a b:Nat,(some a==some b)=(a==b) from λa b=>rfl])
  have w3:IntKind.i64.wrap ((m:Int)+2+(k:Int))=((m+2+k:Nat):Int):=by rw[kqo _ (by omega)];omega
  have k1:((m+2+k:Nat):Int)<(G.length:Int):=(by omega);have k0:(0:Int)<=((m+2+k:Nat):Int):=(by omega);have Kj:(k:Int)<(F.length:Int):=(by omega);have Ki:(0:Int)<=(k:Int):=(by omega);obtain⟨p,u⟩:=xq (m+2+k);rw[u] at N d w3 k1 k0;obtain⟨v,T⟩:=xq (wd G p);rw[T] at N d;obtain⟨f,hf⟩:=xq (F[k]);rw[hf] at y0 d;have s:=y5 I;clear u T hf;by_cases h:f=3
  .subst h;have o:Hid (wrF G F O m 11 k=(decide (0<v) && !mw O v)):=y5 (by rw[d.out];rfl);by_cases i:0<v
   .have d1:decide ((0:Int)<(v:Int))=true:=(by rw[kqh];omega);obtain⟨a,p⟩:=yq0 (λW (hr:RdB W W.heap.size OA O)=>pO OA O oc O.length v W rfl (by omega) hr Y.out) (K.out.up I U);rw[decide_eq_true i] at o;obtain⟨q,S⟩:=xq (mw O v);rw[S] at a o;clear S d;cases q
    .have t:=y5 (HY.out (by rw[o.out];rfl));go_wp2_with fail;refine (a.out _ p.out).mono ?_;rintro e w5 ⟨⟨r,rfl,hr⟩,rfl⟩;simp only[kvc] at hr;go_wp2;go_ret;exact⟨by rw[t.out];rfl,H.out.trans (s.out.mono H.out.size)⟩
    have t:=y5 (HS.out (by rw[o.out];rfl));go_wp2_with fail;refine (a.out _ p.out).mono ?_;rintro e w5 ⟨⟨r,rfl,hr⟩,rfl⟩;simp only[kvz] at hr;go_wp2;go_roundw;exact⟨k+1,by omega,by go_num,t,s.out⟩;simp[intOf];omega
   have t:=y5 (HS.out (by rw[o.out,decide_eq_false i];rfl));obtain rfl:v=0:=(by omega);clear d o i;go_wp2;go_roundw;exact⟨k+1,by omega,by go_num,t,s.out⟩;simp[intOf];omega
  have e1:((f:Int)==3)=false:=(by rw[kqc];omega);have t:=y5 (HS.out (by rw[d.out,show (f==3)=false by rw[kqc];exact h];rfl));clear h d;go_wp2;go_roundw;exact⟨k+1,by omega,by go_num,t,s.out⟩;simp[intOf];omega
 have t:=y5 (X.out λj hj=>HP.out j (by omega));obtain rfl:k=F.length:=(by omega);go_wp2;go_ret;exact⟨by rw[t.out];rfl,H.out.trans (I.mono H.out.size)⟩
theorem wL(A:Option Addr)(G:List Nat)(c n t:Nat)(w:World)(h:G.length=n)(b:am (n:Int)=true)(d:tyN G=some t)(s:n<=c)(a:RdW w w.heap.size A G)(g:∀x∈G,x<2^64):
 Calls prog 151 #[.slice A n c] w λe f=>If G t w.heap.size e f/\Below w.heap.size w f:=by subst h;have h:=(ae _).1 b;have i:=y5 (sI A G c G.length w rfl (by omega) s a);have f:jJ G=0:=BE.2 ⟨b,by rw[d];rfl⟩;unfold C2 at i;rw[f,d] at i;obtain⟨r,q⟩:=yq0 (λW (a:RdW W W.heap.size A G)=>zc A G c G.length t W rfl (by omega) (by omega) a g) a;clear b h f d a g;go_enter func151,ntmps151;go_wp2_with fail;refine i.out.mono ?_;rintro e y ⟨⟨a,l,m,rfl⟩,d⟩;simp only[kq9];have k:=d.size;have b:=y5 ((d.alloc k (.cells #[.int .i64 a,.int .i64 (t:Int)] 126)).alloc (by simp;omega) (.cells #[.bool l,.bool m] 127));clear d;go_wp2_with fail;refine (r.out _ (yq8 q b)).mono ?_;rintro e p ⟨⟨v,L,rfl,o⟩,f⟩;have g:=yq7 b f;have d:=y5 o;have hz2:=b.out.size;have j:Hid (∀L v,vm p ((y.alloc (.cells #[.int .i64 a,.int .i64 (t:Int)] 126)).alloc (.cells #[.bool l,.bool m] 127)).heap.size v L->vm p w.heap.size v L):=y5 λL v h=>⟨ab h.1 b.out.size,λx u=>ab (h.2 x u) b.out.size⟩;clear o f;go_wp2;go_ret2;exact⟨⟨v,L,rfl,λh=>⟨j.out _ _ (d.out h).1,(d.out h).2⟩⟩,g.out⟩
theorem qC(k:tyN G=some t)(j:blocks G 128=some l):lay G=true↔fF G 16=true/\fF G 24=true/\iG G t=true/\slsOk G=true/\kE l=true/\(∀r,7<=r->r<12->∀b∈aP l,wrK G (iu G t 8) (aP l) r b=false)/\∀s∈slL G,kn (aP l) s=true:=by
 unfold lay;rw[k,j];simp only[kqs,kzt,kzn,kxq];constructor
 .rintro ⟨a,c,d,e,f,g,h⟩;refine⟨a,c,d,e,f,λr h1 h2 b i=>?_,h⟩;have:=g (r-7) (by omega) b i;rwa [show 7+(r-7)=r by omega] at this
 rintro ⟨a,c,d,e,f,g,h⟩;exact⟨a,c,d,e,f,λr hr b i=>g (7+r) (by omega) (by omega) b i,h⟩
theorem o8(h:tyN G=none\/blocks G 128=none):lay G=false:=by
 unfold lay;rcases h with h|h
 .rw[h]
 rw[h];cases tyN G<;>rfl
theorem ir(n:blocks G 128=some l){b:Bk}(f:b∈aP l):∃a z ty nx:Nat,∃mk,b=⟨(a:Int),(z:Int),1,(ty:Int),mk,nx⟩/\128<=a/\a+z<=G.length/\2<=z/\b=bkAt G a/\stands G a=true:=by
 unfold aP at f;obtain⟨j,c⟩:=kzy.1 f;rw[kqw] at c;obtain⟨k,m,rfl⟩:=kqy j;obtain⟨a,e,a1,h,a3,d,-⟩:=bN _ _ n (by omega) k m;have g:=aC d;rw[e] at c;have i:bkAt G a=⟨(a:Int),((szAt G a:Nat):Int),1,(((aq (wd G a)).typ.toNat:Nat):Int),(aq (wd G a)).mark,wd G (a+1)⟩:=by
  have o:(aq (wd G a)).typ=(((aq (wd G a)).typ.toNat:Nat):Int):=by unfold aq;dsimp only;omega
  rw[<-o,<-c];rfl
 exact⟨a,szAt G a,(aq (wd G a)).typ.toNat,wd G (a+1),(aq (wd G a)).mark,by rw[e,i],h,g.2.2,g.1,e,d⟩
theorem FC(l:List Bk):(aP l).length<=l.length:=by unfold aP;exact kxz _ _
def ES (G:List Nat) (e:Ending):Prop:=∃r:Int,e=.returned (.int .i64 r)/\0<=r/\(r=0↔lay G=true)
theorem mn{r:Int}(h:lay G=false)(hr:0<r):ES G (.returned (.int .i64 r)):=⟨r,rfl,by omega,by rw[h];constructor<;>intro h;omega;cases h⟩
theorem wy_ok(h:lay G=true):ES G (.returned (.int .i64 0)):=⟨0,rfl,by omega,by rw[h];simp⟩
theorem EA(A:Option Addr)(G:List Nat)(c n:Nat)(w:World)(a:G.length=n)(Z:am (n:Int)=true)(hc:n<=c)(p:RdW w w.heap.size A G)(ho:∀x∈G,x<2^64):
 Calls prog 93 #[.slice A n c] w λe s=>ES G e/\Below w.heap.size w s:=by
 subst a;have K:=(ae _).1 Z;obtain⟨J,HR⟩:=yq0 (sI A G c G.length w rfl (by omega) hc p) p;have D:jJ G=if (tyN G).isSome=true then 0 else 50:=by unfold jJ;rw[if_pos Z]
 unfold C2 at J;have HZ:=y5 (λa b W (p:RdW W W.heap.size A G)=>za A G c G.length a W rfl b (by omega) p);obtain⟨F,H,P,Ke⟩:=yq2 (λW (p:RdW W W.heap.size A G)=>(show Calls prog 150 #[.slice A G.length c,.int .i64 16] W λe s=>e=.returned (.bool (fF G 16))/\W=s from HZ.out 16 (by omega) W p)) (λW (p:RdW W W.heap.size A G)=>(show Calls prog 150 #[.slice A G.length c,.int .i64 24] W λe s=>e=.returned (.bool (fF G 24))/\W=s from HZ.out 24 (by omega) W p)) (λW (p:RdW W W.heap.size A G)=>CM A G c G.length W rfl (by omega) (by omega) p ho) (λW (p:RdW W W.heap.size A G)=>zt A G c G.length W rfl Z p ho);unfold TlRes at P;cases ht:tyN G with
 | none =>rw[ht] at J D;rw[D] at J;have C:=y5 (o8 (.inl ht));simp only[kkt,kj5,kzp,if_false] at J;clear D ht Z K p ho HZ F H P Ke;go_enter func93,ntmps93;go_wp2_with fail;refine J.out.mono ?_;rintro e w1 ⟨⟨a,b0,b1,rfl⟩,b⟩;have Ki:=b.size;go_wp2;go_ret;exact⟨mn C.out (by decide),(b.alloc Ki _).alloc (by simp;omega) _⟩
 | some t =>
  have Lc:=vM ht;rw[ht] at J D;rw[D] at J;simp only[kq9,kxv,if_true] at J;have Kf:=y5 (λW (p:RdW W W.heap.size A G)=>wL A G c G.length t W rfl Z ht hc p ho);unfold If at Kf;obtain⟨r,z⟩:=yq0 (λl f=>qC (G:=G) (t:=t) (l:=l) ht f) (λh=>o8 (G:=G) (.inr h));have q:Hid ((fF G 16=false\/fF G 24=false\/iG G t=false\/slsOk G=false\/xH G=false)->lay G=false):=y5 λh=>by
   cases o:lay G with
   | false=>rfl
   | true =>
    cases f:blocks G 128 with
    | none=>rw[z.out f] at o;cases o
    | some l =>obtain⟨a1,a2,d,g,i,-⟩:=(r.out l f).1 o;rw[a1,a2,d,g,iT f,i] at h;simp at h
  obtain⟨E,u,HO⟩:=yq1 (λl f=>iT (G:=G) (l:=l) f) (λl (f:blocks G 128=some l)=>(bv (by omega) _ _ f (by omega) (by omega) (by omega)).1) ho;have Kh:256<=G.length:=(by omega);have g:G.length<=2048:=(by omega);clear D Z K p ho HZ ht;go_enter func93,ntmps93;go_wp2_with fail;refine J.out.mono ?_;rintro e w1 ⟨⟨a,b0,b1,rfl⟩,b⟩;have Ki:=b.size;have d:=y5 ((b.alloc Ki (.cells #[.int .i64 a,.int .i64 (t:Int)] 126)).alloc (by simp;omega) (.cells #[.bool b0,.bool b1] 127));clear b;go_wp2_with fail;refine (F.out _ (yq8 HR d)).mono ?_;rintro e w2 ⟨rfl,rfl⟩;cases b:fF G 16
  .have C:=y5 (q.out (.inl b));clear b;go_wp2;go_ret;exact⟨mn C.out (by decide),d.out⟩
  have Kj:=y5 b;clear b;go_wp2_with fail;refine (H.out _ (yq8 HR d)).mono ?_;rintro e w2 ⟨rfl,rfl⟩;cases b:fF G 24
  .have C:=y5 (q.out (.inr (.inl b)));clear b;go_wp2;go_ret;exact⟨mn C.out (by decide),d.out⟩
  have Kk:=y5 b;clear b;go_wp2_with fail;refine (Kf.out _ (yq8 HR d)).mono ?_;rintro e w3 ⟨⟨v,L,rfl,i⟩,b⟩;have k:=yq7 d b;obtain⟨m,Km⟩:=yq0 i (yq8 HR k);clear i b;cases y:iG G t
  .have C:=y5 (q.out (.inr (.inr (.inl y))));clear y;go_wp2;go_ret;exact⟨mn C.out (by decide),k.out⟩
  have Kt:=y5 y;obtain⟨b,j⟩:=m.out y;obtain⟨TA,tc,rfl⟩:=aw b.1;obtain⟨Ko,Ks⟩:=yq0 (RdL.of_own b rfl) j;have B:∀x∈L,x.l.length<=8:=λx hx=>by
   have:x.l∈L.map Ty.l:=kkx hx;rw[j] at this;unfold iu at this;obtain⟨i,-,e⟩:=kz9.1 this;rw[<-e];exact ke _ _
  have Ka:=y5 B;clear y b j B m;go_wp2_with fail;refine (P.out _ Km.out).mono ?_;rintro e w4 ⟨⟨SA,sn,sc,rfl,B⟩,b⟩;have m:=yq7 k b;obtain⟨j,Kn,Q⟩:=yq1 B (yq8 HR m) (Ko.out.up b b.size);clear B b;cases b:slsOk G
  .have C:=y5 (q.out (.inr (.inr (.inr (.inl b)))));clear b;go_wp2;go_ret;exact⟨mn C.out (by decide),m.out⟩
  have Kr:=y5 b;obtain⟨I,Ky,B⟩:=j.out b;obtain⟨N,Kp⟩:=yq0 I B;clear b B j I;go_wp2_with fail;refine (Ke.out _ Kn.out).mono ?_;rintro e w5 ⟨⟨PA,pn,pc,rfl,j⟩,b⟩;have I:=yq7 m b;obtain⟨B,R,X⟩:=yq1 j (Q.out.up b b.size) (show RdS w5 w5.heap.size SA (slL G) from Rd.up Kp.out b b.size);clear j b;cases j:xH G
  .have C:=y5 (q.out (.inr (.inr (.inr (.inr j)))));clear j;go_wp2;go_ret;exact⟨mn C.out (by decide),I.out⟩
  obtain⟨l,f,rfl,Lb,M⟩:=B.out j;have Kz:=u.out l f;have Kb:=y5 (r.out l f);have Kl:Hid (kE l=true):=y5 (by rw[<-E.out l f];exact j);have Kc:=y5 (rm PA l pc l.length w5 rfl (by omega) M);have Ku:=FC l;have Eq:=y5 (λb K=>ir (b:=b) f K);obtain⟨O,S⟩:=xq (aP l);rw[S] at Kc Kb Ku Eq;clear j f M S B r z u E;go_wp2_with fail;refine Kc.out.mono ?_;rintro e w6 ⟨⟨OA,on,oc,rfl,rfl,La,j⟩,f⟩;have B:=yq7 I f;obtain⟨E,Kq,Kd,Kv⟩:=yq2 (R.out.up f f.size) (show RdS w6 w6.heap.size SA (slL G) from Rd.up X.out f f.size) j (yq8 HR B);clear f j;have V:Hid (∀b∈O,0<=b.at_/\b.at_<=1000000):=y5 λb K=>by
   obtain⟨a,z,u,U,S,rfl,a1,a2,-⟩:=Eq.out b K;dsimp only;omega
  have Kg:Hid (∀(r j a z u U:Nat) (S:Bool) (hj:j<O.length),O[j]=⟨(a:Int),(z:Int),1,(u:Int),S,U⟩->7<=r->r<=11->(9<=r->wrK G (L.map Ty.l) O 8 O[j]=false)->a+z<=G.length->∀W,Below w6.heap.size w6 W->Calls prog 155 #[.slice A G.length c,.slice TA L.length tc,.slice OA O.length oc,.agg #[.int .i64 (a:Int),.int .i64 (z:Int),.int .i64 1,.int .i64 (u:Int),.bool S,.int .u64 (U:Int)],.int .i64 (r:Int)] W λe s=>e=.returned (.bool (wrK G (L.map Ty.l) O r O[j]))/\Below W.heap.size W s):=y5 λr j a z u U S hj e h7 h11 Y s W f=>by
   have M:∀r,wrK G (L.map Ty.l) O r O[j]=wrB G (L.map Ty.l) O a z u S U r:=λr=>by
    rw[e];unfold wrK;simp only[kqf]
   rw[M r];by_cases h9:9<=r
   .have Y:=Y h9;rw[M 8] at Y;have Y:(!decide (u<(L.map Ty.l).length)||bp (((L.map Ty.l)[u]?).getD []).length != z)=false:=Y;rw[kzo] at Y;have y:u<L.length:=by
     have:=Y.1;rw[kzw] at this
     simpa using this
    have hz:=Y.2;rw[kxk,kqg y,kqt] at hz;exact th A TA OA G L O c G.length tc L.length oc O.length a z u U r 1 S W rfl rfl g (by omega) rfl y (Ka.out _ (kqp y)) hz.symm s (by omega) (E.out.up f f.size) (Kv.out.up f f.size) (Kd.out.up f f.size) V.out
   exact rE A TA OA G L O c G.length tc L.length oc O.length a z u U r 1 S W rfl Ka.out (by omega) (E.out.up f f.size)
  rw[Ks.out] at Kg;have M:Hid (lay G=true↔(∀r,7<=r->r<12->∀b∈O,wrK G (iu G t 8) O r b=false)/\∀s∈slL G,kn O s=true):=y5 (by
   rw[Kb.out];exact⟨λh=>h.2.2.2.2.2,λh=>⟨Kj.out,Kk.out,Kt.out,Kr.out,Kl.out,h⟩⟩)
  have Kx:O.length<=1000000:=(by omega);have Kw:=y5 (λW (p:RdB W W.heap.size OA O) v=>pO OA O oc O.length v W rfl Kx p V.out);obtain⟨T,W⟩:=xq (iu G t 8);rw[W] at Kg M;have f:O.length<=2048:=(by omega);clear W Kb Kl Kt Kr Kj Kk Ks E R Q Ko Ka Kz Ku Lb Ky La Kc Km Kn Kp X k m I d q Kf P Ke F H J f Kh g Lc;go_wp2_with fail;go_loopw [11] (λi wr=>∃k:Nat,7<=k/\k<=12/\i=.int .i64 k/\Hid (∀r,7<=r->r<k->∀b∈O,wrK G T O r b=false)/\Below w6.heap.size w6 wr) (λi _=>12-(intOf i).toNat)
  case atStart=>exact⟨7,kqa _,by omega,rfl,y5 λr h1 Q=>absurd Q (by omega),kqe _ _⟩
  obtain⟨k,Kb,hk,rfl,HP,hB⟩:=hrel;have hz:=hB.size;by_cases R:k<=11
  .have hki:decide ((k:Int)<=11)=true:=(by rw[kqh];omega);have hkn:decide (k<=11)=true:=by rw[kqh];exact R
   have Kj:=y5 hB;have Kl:Hid ((∀b∈O,wrK G T O k b=false)->∀r,7<=r->r<k+1->∀b∈O,wrK G T O r b=false):=y5 λh r h1 Q=>by
    rcases kq8 r k with W|W
    .exact HP.out r h1 W
    have:r=k:=(by omega);subst this;exact h
   obtain⟨wk,d⟩:=xq wr;rw[d] at hB Kj hz |-;clear d;go_wp2_with fail;go_loopw [12] (λi wr=>∃j:Nat,j<=O.length/\i=.int .i64 j/\Hid (∀q (h:q<O.length),q<j->wrK G T O k O[q]=false)/\Below wk.heap.size wk wr) (λi _=>O.length-(intOf i).toNat)
   case atStart=>exact⟨0,kqv _,rfl,y5 λq h Q=>absurd Q (by omega),kqe _ _⟩
   obtain⟨j,hj,rfl,HQ,E⟩:=hrel;have Kn:=E.size;have d:=hB.trans (E.mono hz);by_cases m:j<O.length
   .obtain ⟨a,z,u,U,S,I,a1,a2,-⟩:=Eq.out O[j] (kqp m);have Ka:=y5 (Kg.out k j a z u U S m I Kb R (λh9=>HP.out 8 (by omega) (by omega) _ (kqp m)) a2 wr d);obtain⟨b,off,rfl,K,p0,p1,p2,p3,p4,p5⟩:=RdB.at_ (Rd.below Kd.out d) m;rw[I] at p0 p1 p2 p3 p4 p5;dsimp only at p0 p1 p2 p3 p4 p5;have f:Hid (wrK G T O k O[j]=false->∀q (h:q<O.length),q<j+1->wrK G T O k O[q]=false):=y5 λh q o Q=>by
     rcases kq8 q j with W|W
     .exact HQ.out q o W
     have:q=j:=(by omega);subst this;exact h
    have t:Hid (wrK G T O k O[j]=true->lay G=false):=y5 λh=>by
     cases o:lay G with
     | false=>rfl
     | true=>rw[(M.out.1 o).1 k Kb (by omega) _ (kqp m)] at h;cases h
    obtain⟨q,o⟩:=xq (wrK G T O k O[j]);rw[o] at Ka f t;have Kf:(j:Int)<(O.length:Int):=(by omega);have Km:(0:Int)<=(j:Int):=(by omega);have Kh:(0:Int)<(k:Int):=(by omega);obtain⟨Kc,g⟩:=yq0 E d;clear o I a1 a2 d;cases q
    .have HN:=y5 (f.out rfl);clear f t;go_wp2_with fail;refine Ka.out.mono ?_;rintro e w8 ⟨rfl,I⟩;have X:=y5 (Kc.out.trans (I.mono Kn));clear I;go_wp2;go_roundw;exact⟨j+1,by omega,by go_num,HN,X.out⟩;simp[intOf];omega
    have C:=y5 (t.out rfl);clear f t;go_wp2_with fail;refine Ka.out.mono ?_;rintro e w8 ⟨rfl,I⟩;obtain⟨X,Kk⟩:=yq0 (B.out.trans ((g.out.trans (I.mono (by have:=g.out.size;omega))).mono B.out.size)) Kh;clear I Kh;go_wp2;go_ret;exact⟨mn C.out Kk.out,X.out⟩
   have HN:=y5 (Kl.out λb K=>by
    obtain⟨q,o,rfl⟩:=kqy K;exact HQ.out q o (by omega))
   have hjn:decide ((j:Int)<(O.length:Int))=false:=(by rw[kqb];omega);have hjnn:decide (j<O.length)=false:=by rw[kqb];exact m
   have g:=y5 d;clear m d;go_wp2;go_roundw;exact⟨k+1,by omega,by omega,by go_num,HN,g.out⟩;simp[intOf];omega
  have I:Hid (∀r,7<=r->r<12->∀b∈O,wrK G T O r b=false):=y5 λr h1 Q=>HP.out r h1 (by omega);have d:=y5 hB;have hkd:decide ((k:Int)<=11)=false:=(by rw[kqb];omega);have hkdn:decide (k<=11)=false:=by rw[kqb];exact R
  clear HP R hk Kb;go_wp2_with fail;go_loopw [13] (λi g=>∃j:Nat,j<=16/\i=.int .i64 j/\Hid (∀q (h:q<(slL G).length),q<j->kn O (slL G)[q]=true)/\Below w6.heap.size w6 g) (λi _=>16-(intOf i).toNat)
  case atStart=>exact⟨0,kqv _,rfl,y5 λq h Q=>absurd Q (by omega),d.out⟩
  obtain⟨j,hj,rfl,HQ,E⟩:=hrel;have d:=y5 E
  rename World=>wq
  by_cases m:j<16
  .have R:j<(slL G).length:=by rw[fi];exact m
   obtain⟨b,off,rfl,K,p0,p1,p2⟩:=RdS.at_ (Rd.below Kq.out d.out) R;have f:Hid (kn O (slL G)[j]=true->∀q (h:q<(slL G).length),q<j+1->kn O (slL G)[q]=true):=y5 λh q o Q=>by
    rcases kq8 q j with W|W
    .exact HQ.out q o W
    have:q=j:=(by omega);subst this;exact h
   have t:Hid (kn O (slL G)[j]=false->lay G=false):=y5 λh=>by
    cases o:lay G with
    | false=>rfl
    | true=>rw[(M.out.1 o).2 _ (kqp R)] at h;cases h
   have i:0<=(slL G)[j].at_/\(slL G)[j].at_<=4294967295:=by rw[lH];exact⟨(io (wd G (112+j))).2.2.1,(io (wd G (112+j))).2.2.2⟩
   obtain⟨x,hx⟩:=xq ((slL G)[j]);rw[hx] at p0 p1 p2 f t i;obtain⟨g,u,at_⟩:=x;dsimp only at p0 p1 p2 i;obtain⟨v,rfl⟩:=kqz i.1;have h:Hid (kn O ⟨g,u,((v:Nat):Int)⟩=(!u||mw O v)):=y5 (by unfold kn;rw[kqf]);have w9:IntKind.u64.wrap (v:Int)=(v:Int):=kzi _ (by omega);have Kf:(j:Int)<(sn:Int):=by rw[N.out];omega
   have Q:decide ((j:Int)<(sn:Int))=true:=by rw[kqh];exact Kf
   have E:decide (j<sn)=true:=by rw[kqh,N.out];exact m
   have Km:(0:Int)<=(j:Int):=(by omega);have z:=y5 (Kw.out wq (yq8 Kd d) v);clear hx i;cases u
   .have HN:=y5 (f.out (by rw[h.out];rfl));clear f t;go_wp2;go_roundw;exact⟨j+1,by omega,by go_num,HN,d.out⟩;simp[intOf];omega
   obtain⟨q,o⟩:=xq (mw O v);rw[o] at z h;clear o;cases q
   .have C:=y5 (t.out (by rw[h.out];rfl));clear f t;go_wp2_with fail;refine z.out.mono ?_;rintro e w8 ⟨⟨r,rfl,p⟩,rfl⟩;simp only[kvc] at p;go_wp2;go_ret;exact⟨mn C.out (by decide),B.out.trans (d.out.mono B.out.size)⟩
   have HN:=y5 (f.out (by rw[h.out];rfl));clear f t;go_wp2_with fail;refine z.out.mono ?_;rintro e w8 ⟨⟨r,rfl,p⟩,rfl⟩;simp only[kvz] at p;go_wp2;go_roundw;exact⟨j+1,by omega,by go_num,HN,d.out⟩;simp[intOf];omega
  have C:Hid (lay G=true):=y5 (M.out.2 ⟨I.out,λs Z=>by
   obtain⟨q,o,rfl⟩:=kqy Z;exact HQ.out q o (by rw[fi] at o;omega)⟩)
  have Q:decide ((j:Int)<(sn:Int))=false:=by rw[kqb,N.out];omega
  have E:decide (j<sn)=false:=by rw[kqb,N.out];exact m
  go_wp2;go_ret;exact⟨wy_ok C.out,B.out.trans (d.out.mono B.out.size)⟩
theorem yK(A:Option Addr)(G:List Nat)(c n:Nat)(w:World)(b:G.length=n)(s:n<=9223372036854775807)(m:n<=c)(d:RdW w w.heap.size A G)(o:∀x∈G,x<2^64):
 Calls prog 13 #[.slice A n c] w λe a=>e=.returned (.int .i64 (d7 G))/\Below w.heap.size w a:=by
 subst b;have f:=y5 (λW=>fu A G.length c W s);have k:Calls prog 49 #[.slice A G.length c] w λe a=>(∃r:Int,e=.returned (.tuple #[.int .i64 r,.int .i64 (lk G.length)])/\0<=r/\(am (G.length:Int)=true->(r=0↔lay G=true)))/\Below w.heap.size w a:=by
  cases b:am (G.length:Int)
  .have g:=y5 (bQ b);rw[bQ b] at f;have a:Hid (∀ {p:Prop},false=true->p):=y5 λh=>by cases h
   clear d o m b;go_enter func49,ntmps49;go_wp2_with fail;refine (f.out _).mono ?_;rintro e l ⟨rfl,rfl⟩;go_wp2;go_ret2;exact⟨⟨0,by rw[g.out];rfl,by omega,λh=>a.out h⟩,kqe _ _⟩
  have g:=y5 (aM b);rw[aM b] at f;have a:=y5 (EA A G c G.length w rfl b m d o);unfold ES at a;clear d o m b;go_enter func49,ntmps49;go_wp2_with fail;refine (f.out _).mono ?_;rintro e l ⟨rfl,rfl⟩;go_wp2_with fail;refine a.out.mono ?_;rintro e l ⟨⟨r,rfl,j,d⟩,i⟩;have q:=y5 (And.intro j d);clear j d;go_wp2;go_ret2;exact⟨⟨r,by rw[g.out];rfl,q.out.1,λ_=>q.out.2⟩,i⟩
 have g:=y5 k;have a:Hid (d7 G=if am (G.length:Int)=true then (if lay G=true then 0 else 50) else 8):=y5 rfl;clear k d o m f;cases b:am (G.length:Int)
 .rw[bQ b] at g;rw[b] at a;simp only[kzp,if_false] at a;clear b;go_enter func13,ntmps13;go_wp2_with fail;refine g.out.mono ?_;rintro e l ⟨⟨r,rfl,-,-⟩,i⟩;go_wp2;go_ret;exact⟨by rw[a.out];rfl,i⟩
 rw[aM b,b] at g;rw[b] at a;simp only[if_true] at a;clear b;cases f:lay G
 .rw[f] at g a;clear f;go_enter func13,ntmps13;go_wp2_with fail;refine g.out.mono ?_;rintro e l ⟨⟨r,rfl,j,d⟩,i⟩;have b:r≠0:=λh=>by have:=(d trivial).1 h;cases this
  have d1:decide (0<r)=true:=(by rw[kqh];omega);clear d b j;go_wp2;go_ret;exact⟨by rw[a.out];rfl,i⟩
 rw[f] at g a;clear f;go_enter func13,ntmps13;go_wp2_with fail;refine g.out.mono ?_;rintro e l ⟨⟨r,rfl,j,d⟩,i⟩;obtain rfl:r=0:=(d trivial).2 (by first|exact trivial|rfl);clear d j;go_wp2;go_ret;exact⟨by rw[a.out];rfl,i⟩
end Go.Proofs.YtpcajamacpbjcaaGreat
