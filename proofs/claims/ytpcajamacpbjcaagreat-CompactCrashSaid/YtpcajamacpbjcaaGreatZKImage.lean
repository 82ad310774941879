/- Texts laid together: Ref13 Bld Pair. -/
import Derived.Test.YtpcajamacpbjcaaGreatZKHeap
import Derived.Test.YtpcajamacpbjcaaGreatZKRefs
import Derived.Test.YtpcajamacpbjcaaGreatZKHead
import Derived.Test.YtpcajamacpbjcaaGreatZKMove
set_option maxHeartbeats 16000000
set_option maxRecDepth 100000
set_option linter.all false
namespace Go.Proofs.YtpcajamacpbjcaaGreat
open Lib (hid)
open Go.RowKit
variable {cur l:List Nat}{B H k n:Nat}{A:Option Addr}{w wr:World}
open Go.Proofs.Tryz
def fN:List Nat->Nat
 | []=>0
 | k::l=>fN l*4+k
theorem Hn(l:List Nat):∀j,mz l j=4 ^ j*fN l:=by
 induction l with
 | nil=>intro j;rfl
 | cons k l ih=>intro j;simp only[mz,fN,ih];rw[kji,Nat.mul_add,kjd k,kjd (fN l) 4,kve];omega
theorem Gn(l:List Nat):fN l*256+l.length=gV l:=by unfold gV;rw[Hn,show (4:Nat) ^ 4=256 by decide];omega
theorem fN_lt(h:dE l=true):fN l<4 ^ l.length:=by
 induction l with
 | nil=>simp[fN]
 | cons k l ih =>rw[cU] at h;have h1:=ih ((cU l).2 λx a=>h x (by simp[a]));have h2:=h k (by simp);simp only[fN,kq2,kji];omega
theorem Is(hk:k<l.length):fN (l.drop k)=fN (l.drop (k+1))*4+l[k]:=by rw[kxx hk];rfl
theorem oe(h8:l.length<=8)(h:dE l=true)(k:Nat):fN (l.drop k)<65536:=by
 have a:dE (l.drop k)=true:=(cU _).2 λx b=>(cU l).1 h x (kja b);have h2:=fN_lt a;have h3:4 ^ (l.drop k).length<=4 ^ 8:=kx9 (by omega) (by rw[kzk];omega);have h4:(4:Nat) ^ 8=65536:=by decide
 omega
theorem vW(A:Option Addr)(l:List Nat)(c n B:Nat)(w:World)(hn:l.length=n)(h8:n<=8)(p:dE l=true)(hr:RdY w B A l):
 Calls prog 137 #[.slice A n c] w λe w'=>e=.returned (.int .u64 (gV l:Nat))/\w=w':=by
 subst hn;have v:=hid hr;have t:=hid (Gn l);have g:=hid p;clear hr p;go_enter func137,ntmps137;go_wp2_with fail
 go_loop [3,4] (λs i=>∃k:Nat,k<=l.length/\i=.int .i64 ((k:Int)-1)/\s=.int .u64 (fN (l.drop k):Nat)) (λ_ i=>(intOf i+1).toNat)
 case atStart=>exact⟨l.length,kqd _,rfl,by rw[kj9];rfl⟩
 obtain⟨k,p,rfl,rfl⟩:=hrel;cases k with
 | zero =>
  have a:=oe h8 g.out 0;rw[List.drop_zero] at a |-;obtain⟨q,f⟩:=xq (fN l);rw[f] at a t |-;have o:(0:Int)<=(q:Int):=by omega
  have h:(q:Int)<65536:=by omega
  clear f;go_wp2;go_ret;exact⟨by rw[<-t.out];try simp,rfl⟩
 | succ k =>
  rw[show (((k+1:Nat):Int)-1)=(k:Int) by omega];have a:k<l.length:=by omega
  obtain⟨b,off,rfl,hb,u⟩:=v.out.at_ a;have f:=oe h8 g.out (k+1);have m:=hid (Is a);have j:=((cU l).1 g.out l[k] (kqp a)).2;obtain⟨x,r⟩:=xq (l[k]);obtain⟨q,d⟩:=xq (fN (l.drop (k+1)));rw[r] at u m j;rw[d] at f m |-;have o:(0:Int)<=(q:Int):=by omega
  have h:(q:Int)<65536:=by omega
  have hx0:(0:Int)<=(x:Int):=by omega
  have hx1:(x:Int)<=3:=by omega
  have hk0:(0:Int)<=(k:Int):=by omega
  have hkl:(k:Int)<(l.length:Int):=by omega
  clear r d;go_wp2_with fail
  go_round
  case rel=>exact⟨k,by omega,rfl,by rw[m.out];simp⟩
  case measure=>simp[intOf]<;>omega
theorem om(A:Option Addr)(l:List Nat)(c n B:Nat)(w:World)(hn:l.length=n)(h8:n<=8)(d:dE l=true)(hr:RdY w B A l):
 Calls prog 136 #[.slice A n c] w λe w'=>e=.returned (.int .i64 0)/\w=w':=by
 subst hn;have j:=hid hr;have m:=hid d;clear hr d;go_enter func136,ntmps136;go_wp2_with fail
 go_loop [3] (λi=>∃k:Nat,k<=l.length/\i=.int .i64 k) (λi=>l.length-(intOf i).toNat)
 case atStart=>exact⟨0,kqy _,rfl⟩
 obtain⟨k,d,rfl⟩:=hrel;by_cases a:k<l.length
 .obtain ⟨b,off,rfl,hb,h⟩:=j.out.at_ a;obtain⟨g,o⟩:=(cU l).1 m.out l[k] (kqp a);obtain⟨x,f⟩:=xq (l[k]);rw[f] at h g o;have e1:((x:Int)==0)=false:=by rw[kqi];omega
  clear f;go_wp2_with fail
  go_round
  case rel=>exact⟨k+1,by omega,by go_num⟩
  case measure=>simp[intOf];omega
 go_wp2;go_ret;exact⟨rfl,rfl⟩
theorem pX(A:Option Addr)(l:List Nat)(c n:Nat)(w:World)(hn:l.length=n)(hm:n<=2048)(hr:RdW w w.heap.size A l)(ho:∀x∈l,x<18446744073709551616):
 Calls prog 138 #[.slice A n c] w λe w'=>e=.returned (.int .u64 (aS 14695981039346656037 l:Nat))/\Below w.heap.size w w':=by have b:=hid (uC 14695981039346656037 A l c n w hn hm (by omega) hr ho);clear hr ho;obtain⟨q,d⟩:=xq (aS 14695981039346656037 l);rw[d] at b |-;clear d;go_enter func138,ntmps138;go_wp2_with fail;refine b.out.mono ?_;rintro e w1 ⟨rfl,a⟩;go_wp2;go_ret;exact⟨rfl,a⟩
theorem vU(A:Option Addr)(l:List Nat)(c n H:Nat)(w:World)(hn:l.length=n)(h8:n<=8)(hk:dE l=true)(hr:RdY w H A l)(hH:H<=w.heap.size):
 Calls prog 89 #[.slice A n c] w λe w'=>e=.returned (.tuple #[yL (gV l) (gM (gV l)),.int .i64 0])/\Below w.heap.size w w':=by
 have d:RdY (w.alloc (.cells #[.int .u64 0,.int .u64 0] 157)) H A l:=Rd.alloc hr hH _;have G:=hid (om A l c n H (w.alloc (.cells #[.int .u64 0,.int .u64 0] 157)) hn h8 hk d);have o:=hid (vW A l c n H (w.alloc (.cells #[.int .u64 0,.int .u64 0] 157)) hn h8 hk d);have E:=Bx.new w 157 #[.int .u64 0,.int .u64 0];have k:=yh (by omega) hk;have i:Hid (aS 14695981039346656037 [gV l]=gM (gV l)):=hid rfl;obtain⟨q,D⟩:=xq (gV l);rw[D] at o k i |-;have B:Hid (yL q (gM q)=.agg #[.int .u64 (q:Int),.int .u64 (gM q:Nat)]):=hid rfl;have m:(prog.info? 157).map (·.size)=some 2:=by kernel_rfl
 have I:=hid E;clear hr d hk D E hn;go_enter func89,ntmps89;go_wp2_with fail;refine G.out.mono ?_;rintro e u ⟨rfl,rfl⟩;go_wp2_with fail;refine o.out.mono ?_;rintro e u ⟨rfl,rfl⟩;go_wp2_with fail;refine o.out.mono ?_;rintro e u ⟨rfl,rfl⟩;go_wp2_with fail;have b:=mW (w.alloc (.cells #[.int .u64 0,.int .u64 0] 157)) [.int .u64 (q:Int)] 53;refine (pX _ [q] _ 1 _ rfl (by omega) (by simp only[kqm] at b |-;exact b) (by intro y C;simp at C;subst C;omega)).mono ?_;rintro e u ⟨rfl,a⟩;rw[kqm,kqm] at a;have j:=(((kql _ _).alloc (kqd _) (.cells #[.int .u64 0,.int .u64 0] 157)).alloc (by simp) (.cells #[.int .u64 (q:Int)] 53)).trans (a.mono (by omega));have g:=(I.out.alloc (.cells #[.int .u64 (q:Int)] 53)).up a (by omega);have s:=hid g;have t:=hid j;rw[i.out];obtain⟨z,x⟩:=xq (gM q);have F:=hid x;rw[x] at B |-;clear x g j a b;go_wp2_with ((with_reducible refine aq 157 (.tmp 2) _ ?_);refine ak rfl _ _ _ rfl w.heap.size 157 #[.int .u64 0,.int .u64 0] #[.int .u64 (q:Int),.int .u64 (z:Int)] (by rfl) (by rfl) s.out rfl m (by simp[Value.oneCell']) ?_;intro w3 f h;have p:=hid f;have r:=hid h;clear f h);exact kqr (v:=.tuple #[.agg #[.int .u64 (q:Int),.int .u64 (z:Int)],.int .i64 0]) (ke results89 _ p.out rfl rfl) rfl ⟨by rw[F.out,B.out],r.out.below t.out (kqd _)⟩
def FN (w:List Nat) (i:Nat) (t:List Nat):List Nat:=(w.set (96+2*i) (gV t)).set (96+2*i+1) (gM (gV t))
def kw (ts:List (List Nat)) (w:List Nat):Nat->List Nat
 | 0=>w
 | k+1=>FN (kw ts w k) k (ts[k]?.getD [])
def Hq (w:List Nat) (a:Nat) (b:Bk):List Nat:=(w.set a (cR b)).set (a+1) b.next
def fH (bs:List Bk) (s:List Nat × Nat):Nat->List Nat × Nat
 | 0=>s
 | k+1=>(Hq (fH bs s k).1 (fH bs s k).2 (gk bs k),(fH bs s k).2+(gk bs k).size.toNat)
def ei (n:Nat):Bk:=⟨0,(n:Int),2,0,false,0⟩
def vY (n:Nat) (s:List Nat × Nat):List Nat:=if s.2<n then s.1.set s.2 (cR (ei (n-s.2))) else s.1
def gw (ss:List Int) (w:List Nat):Nat->List Nat
 | 0=>w
 | k+1=>if 0<ss[k]?.getD 0 then (gw ss w k).set (112+k) (9223372041149743104+(ss[k]?.getD 0).toNat) else gw ss w k
def zh (n:Nat) (ts:List (List Nat)) (bs:List Bk):List Nat × Nat:=fH bs (kw ts (List.replicate n 0) ts.length,128) bs.length
def mU (n:Nat) (ts:List (List Nat)) (bs:List Bk) (ss:List Int):List Nat:=gw ss (vY n (zh n ts bs)) ss.length
theorem xx(n:Nat):(List.replicate n 0).flatMap ab=List.replicate n (.int .u64 0):=by
 induction n with
 | zero=>rfl
 | succ n ih=>rw[kjt,kzy,ih,kjt];rfl
theorem rJ(K T S:Nat)(m:Bool)(a:Int)(x:Nat):cR ⟨a,(S:Int),(K:Int),(T:Int),m,x⟩=K+nQ m*256+T*512+S*65536+gM (K+nQ m*256+T*512+S*65536)%4294967296*4294967296:=by unfold cR ku;simp only[kqj]
structure Ty where
 A:Option Addr
 c:Nat
 l:List Nat
 deriving Inhabited
def Ty.cells (x:Ty):List Value:=[.slice x.A x.l.length x.c]
theorem Ty.len(x:Ty):x.cells.length=1:=rfl
def RdT (w:World) (B:Nat) (A:Option Addr) (ts:List Ty):Prop:=Rd w B A (ts.flatMap Ty.cells)/\∀x∈ts,RdY w B x.A x.l/\x.l.length<=8/\dE x.l=true
theorem RdT.at_{l:List Ty}(h:RdT w B A l)(hk:k<l.length):
 ∃b a,A=some ⟨b,a,none⟩/\b<B/\w.cell? ⟨b,a+k,none⟩=some (.slice l[k].A l[k].l.length l[k].c)/\RdY w B l[k].A l[k].l/\l[k].l.length<=8/\dE l[k].l=true:=by obtain⟨b,a,e,d,f⟩:=Rd.at_flat Ty.len h.1 (by omega) hk;have:=f 0 (by omega);simp only[kxo,kz8] at this;obtain⟨j,i,g⟩:=h.2 l[k] (kqp hk);exact⟨b,a,e,d,this,j,i,g⟩
theorem RdT.below{w':World}{l:List Ty}(h:RdT w B A l)(hb:Below B w w'):RdT w' B A l:=⟨h.1.below hb,λx a=>⟨(h.2 x a).1.below hb,(h.2 x a).2⟩⟩
theorem RdT.more{B':Nat}{l:List Ty}(h:RdT w B A l)(hB:B<=B'):RdT w B' A l:=⟨h.1.more hB,λx a=>⟨(h.2 x a).1.more hB,(h.2 x a).2⟩⟩
theorem RdT.nil_ :RdT w B none []:=⟨Rd.nil_,λx h=>by cases h⟩
def nW (H n:Nat) (w wr:World) (cur:List Nat):Prop:=wr.ownsRow H 53 1 (.slice (some ⟨H,0,none⟩) n n) n (cur.flatMap ab)/\Below H w wr
theorem nW.len(h:nW H n w wr cur):cur.length=n:=by have:=h.1.1;rw[ir] at this;omega
theorem nW.set_(h:nW H n w wr cur)(j v:Nat):nW H n w (wr.setCell ⟨H,j,none⟩ (.int .u64 (v:Int))) (cur.set j v):=by refine⟨?_,h.2.setCell (p:=⟨H,j,none⟩) (kqd _) _⟩;rw[nk];exact (h.1.stored j (.int .u64 (v:Int))).1
theorem nW.alloc(h:nW H n w wr cur)(o:Obj):nW H n w (wr.alloc o) cur:=⟨h.1.alloc o,h.2.alloc (kz7 (h.1.lt H rfl).2) o⟩
theorem nW.drew(h:nW H n w wr cur):nW H n w wr.drew cur:=⟨h.1,h.2.drew⟩
theorem nW.up{w1:World}(h:nW H n w wr cur)(hb:Below wr.heap.size wr w1):nW H n w w1 cur:=⟨ai h.1 hb (kqd _),h.2.trans (hb.mono (kz7 (h.1.lt H rfl).2))⟩
theorem nW.cell(h:nW H n w wr cur){j:Nat}(hj:j<n):∃u,wr.cell? ⟨H,j,none⟩=some u/\wr.frozen? ⟨H,j,none⟩=false:=
 ⟨_,(h.1.cellAt j (by omega)).trans (rI cur j (by rw[h.len];exact hj)),h.1.frozenAt j⟩
theorem BI(v:Nat)(hv:v<4294967296):bits BinOp.or .u64 9223372041149743104 (v:Int)=((9223372041149743104+v:Nat):Int):=by
 have h:=u64_or_nat 9223372041149743104 v (by omega) (by omega);have e:9223372041149743104 ||| v=9223372041149743104+v:=by rw[Nat.or_comm,show (9223372041149743104:Nat)=2147483649*2 ^ 32 by decide,jZ (i:=32) (by omega),kjp]
 rw[e] at h;exact h
theorem ti(TA BA SA:Option Addr)(ts:List Ty)(bs:List Bk)(ss:List Int)(tc bc sc n H:Nat)(w:World)(hn:n<=2048)(h128:128<=n)(hT:RdT w H TA ts)(ht8:ts.length<=8)(hB0:RdB w H BA bs)(hS:RdI w H SA ss)(hs16:ss.length<=16)(hH:H<=w.heap.size)(hb2:bs.length<=2048)(hbs:∀k,k<bs.length->(0<=(gk bs k).kind/\(gk bs k).kind<256)/\(0<=(gk bs k).typ/\(gk bs k).typ<128)/\(2<=(gk bs k).size/\(gk bs k).size<65536)/\(fH bs (kw (ts.map Ty.l) (List.replicate n 0) ts.length,128) k).2+(gk bs k).size.toNat<=n)(hss:∀k,k<ss.length->ss[k]?.getD 0<4294967296 /\ -4294967296<ss[k]?.getD 0):
 Calls prog 47 #[.int .i64 (n:Int),.slice TA ts.length tc,.slice BA bs.length bc,.slice SA ss.length sc] w λe w'=>xT w (mU n (ts.map Ty.l) bs ss) e w':=by
 have HT:=hid (hT.more hH);have Jr:=hid (hB0.more hH);have HS:=hid (hS.more hH);have V:=hid hbs;have Jh:=hid hss;clear hT hB0 hS hH hbs hss;obtain⟨i0,hi,Jk,Je,Jl⟩:=kzv mC;obtain⟨W0,Js,G,Jo⟩:=run_make_full (P:=prog) w w.heap.size 22 53 i0 (.int .u64 0) 1 underlying22 hi Jk Je .i64 .i64 n (by rw[Jl];omega) (by unfold maxLen;omega) (kqd _);have Jm:=hid (show nW w.heap.size n w W0 (List.replicate n 0) from ⟨by rw[xx,<-toList_madeCells_one];have:=G;rw[kxo] at this;exact this,(kql _ _).grown Jo (kqd _) (λk hk=>by cases hk)⟩);clear G Jo hi Jk Je Jl;go_enter func47,ntmps47;go_wp2_with fail;clear Js;go_loopw [10] (λi wr=>∃k:Nat,k<=ts.length/\i=.int .i64 k/\nW w.heap.size n w wr (kw (ts.map Ty.l) (List.replicate n 0) k)) (λi _=>ts.length-(intOf i).toNat)
 case atStart=>exact⟨0,kqy _,rfl,Jm.out⟩
 obtain⟨k,hk,rfl,f⟩:=hrel;by_cases m:k<ts.length
 .obtain ⟨b,o,rfl,hb,h0,U,Jw,Jj⟩:=RdT.at_ (HT.out.below f.2) m;have d:Hid (kw (ts.map Ty.l) (List.replicate n 0) (k+1)=FN (kw (ts.map Ty.l) (List.replicate n 0) k) k ts[k].l):=hid (by simp[kw,m]);have HC:=hid (vU ts[k].A ts[k].l ts[k].c ts[k].l.length w.heap.size wr rfl Jw Jj U f.2.size);obtain⟨x,I⟩:=xq (ts[k]);rw[I] at h0 d HC;obtain⟨xA,xc,xl⟩:=x;dsimp only at h0 d HC;obtain⟨p,hp⟩:=xq (gV xl);obtain⟨q,hq⟩:=xq (gM p);unfold FN at d;unfold yL at HC;rw[hp,hq] at HC d;have HO:=hid f;have Ja:(k:Int)<(ts.length:Int):=by omega
  have Jb:(0:Int)<=(k:Int):=by omega
  have w1:IntKind.i64.wrap (2*(k:Int))=2*(k:Int):=kqs _ (by omega);have w2:IntKind.i64.wrap (96+2*(k:Int))=96+2*(k:Int):=kqs _ (by omega);have w3:IntKind.i64.wrap (96+2*(k:Int)+1)=96+2*(k:Int)+1:=kqs _ (by omega);have i1:(0:Int)<=96+2*(k:Int):=by omega
  have i2:(96:Int)+2*(k:Int)<(n:Int):=by omega
  have i3:(0:Int)<=96+2*(k:Int)+1:=by omega
  have i4:(96:Int)+2*(k:Int)+1<(n:Int):=by omega
  have n1:((96:Int)+2*(k:Int)).toNat=96+2*k:=by omega
  have n2:((96:Int)+2*(k:Int)+1).toNat=96+2*k+1:=by omega
  clear I hp hq f U Jj;go_wp2_with fail;refine HC.out.mono ?_;rintro e J ⟨rfl,Y⟩;have Q:=(HO.out.up Y).alloc (.cells #[.int .u64 (p:Int),.int .u64 (q:Int)] 157);have bx:=Bx.new J 157 #[.int .u64 (p:Int),.int .u64 (q:Int)];go_wp2_with fail;obtain⟨W,hW⟩:∃W,J.alloc (.cells #[.int .u64 (p:Int),.int .u64 (q:Int)] 157)=W:=⟨_,rfl⟩;rw[hW] at Q bx |-;obtain⟨x0,x1,-,-,hgg⟩:=bx.c2;obtain⟨u0,c0,f0⟩:=Q.cell (j:=96+2*k) (by omega);obtain⟨u1,c1,f1⟩:=Q.cell (j:=96+2*k+1) (by omega);have hne:w.heap.size≠J.heap.size:=by have:=HO.out.2.size;have:=Y.size;have:=HO.out.1.lt w.heap.size rfl;omega
  have L:=hid Q;clear hW Q bx Y
  first
   | (go_region_held3 (λX:World=>X.cell? ⟨J.heap.size,0,none⟩=some (.int .u64 (p:Int))/\X.cell? ⟨J.heap.size,1,none⟩=some (.int .u64 (q:Int))) (go_keep) (fail))
   | fail
  all_goals
   go_wp2;go_roundw
   case rel=>exact⟨k+1,by omega,by go_num,by rw[d.out];exact ((L.out.drew).set_ _ _).set_ _ _⟩
   case measure=>simp[intOf];omega
 obtain rfl:k=ts.length:=by omega
 obtain⟨F,Jc⟩:=xq (kw (ts.map Ty.l) (List.replicate n 0) ts.length);have Jq:=hid Jc;rw[Jc] at f V;have HO:=hid f;obtain⟨wa,rfl⟩:∃wa:World,wa=wr:=⟨_,rfl⟩;clear Jc f Jm;go_wp2_with fail;go_loopw [13,14] (λp i wr=>∃k:Nat,k<=bs.length/\i=.int .i64 k/\p=.int .i64 ((fH bs (F,128) k).2:Nat)/\nW w.heap.size n w wr (fH bs (F,128) k).1) (λ_ i _=>bs.length-(intOf i).toNat)
 case atStart=>exact⟨0,kqy _,rfl,rfl,HO.out⟩
 obtain⟨k,hk,rfl,rfl,f⟩:=hrel;have d:Hid (fH bs (F,128) (k+1)=(Hq (fH bs (F,128) k).1 (fH bs (F,128) k).2 (gk bs k),(fH bs (F,128) k).2+(gk bs k).size.toNat)):=hid rfl;by_cases m:k<bs.length
 .obtain ⟨b,o,rfl,hb,q0,q1,q2,q3,q4,q5⟩:=RdB.at_ (Rd.below Jr.out f.2) m;obtain⟨⟨e1,e2⟩,⟨e3,e4⟩,⟨e5,e6⟩,e7⟩:=V.out k m;rw[<-bN bs k m] at q0 q1 q2 q3 q4 q5;obtain⟨x,I⟩:=xq (gk bs k);obtain⟨s1,E⟩:=xq (fH bs (F,128) k);rw[I] at q0 q1 q2 q3 q4 q5 d e1 e2 e3 e4 e5 e6 e7;rw[E] at d f e7 |-;obtain⟨xa,xs,xk,xt,xm,xn⟩:=x;obtain⟨r,a⟩:=s1;dsimp only at q0 q1 q2 q3 q4 q5 e1 e2 e3 e4 e5 e6 e7 f d |-;obtain⟨K,rfl⟩:=kq1 e1;obtain⟨T,rfl⟩:=kq1 e3;obtain⟨S,rfl⟩:=kq1 (show 0<=xs by omega);simp only[kqj] at e7 d;unfold Hq at d;rw[rJ] at d;have C:=hid (λW=>nc K T S xm W (by omega) (by omega) (by omega));obtain⟨h,hh⟩:=xq (K+nQ xm*256+T*512+S*65536+gM (K+nQ xm*256+T*512+S*65536)%4294967296*4294967296);rw[hh] at d C;have L:=hid f;have Ja:(k:Int)<(bs.length:Int):=by omega
  have Jb:(0:Int)<=(k:Int):=by omega
  have Ju:(0:Int)<=(a:Int):=by omega
  have Jv:(a:Int)<(n:Int):=by omega
  have ha2:(a:Int)+1<(n:Int):=by omega
  have ha3:(0:Int)<=(a:Int)+1:=by omega
  have hwr:IntKind.i64.wrap ((a:Int)+1)=(a:Int)+1:=kqs _ (by omega);have htn:((a:Int)+1).toNat=a+1:=by omega
  have hle:(a:Int)+(S:Int)<=(n:Int):=by omega
  have hS0:(0:Int)<=(S:Int):=by omega
  have hbh:b<w.heap.size:=hb;have M:b<wr.heap.size:=by have:=f.2.size;omega
  have hbn:b≠w.heap.size:=by omega
  have hbn2:w.heap.size≠b:=by omega
  clear I E hh f e1 e2 e3 e4 e5 e6;go_wp2_with fail
  first
   | (go_region_held3 (λX:World=>X.cell? ⟨b,o+k*6+1,none⟩=some (.int .i64 (S:Int))/\X.cell? ⟨b,o+k*6+2,none⟩=some (.int .i64 (K:Int))/\X.cell? ⟨b,o+k*6+3,none⟩=some (.int .i64 (T:Int))/\X.cell? ⟨b,o+k*6+4,none⟩=some (.bool xm)/\X.cell? ⟨b,o+k*6+5,none⟩=some (.int .u64 (xn:Int))) (go_keep)
    (first | (go_at_call 90;refine (C.out _).mono ?_;rintro e w5 ⟨rfl,s⟩;have m1:=(s.cell (p:=⟨b,o+k*6+1,none⟩) M).trans q1;have m2:=(s.cell (p:=⟨b,o+k*6+2,none⟩) M).trans q2;have m3:=(s.cell (p:=⟨b,o+k*6+3,none⟩) M).trans q3;have m4:=(s.cell (p:=⟨b,o+k*6+4,none⟩) M).trans q4;have m5:=(s.cell (p:=⟨b,o+k*6+5,none⟩) M).trans q5;have z:=L.out.drew.up s;obtain⟨u0,c0,f0⟩:=z.cell (j:=a) (by omega);obtain⟨u1,c1,f1⟩:=z.cell (j:=a+1) (by omega);have Jy:=hid z;clear s z)))
   | fail
  all_goals
   go_wp2;go_roundw
   case rel=>exact⟨k+1,by omega,by go_num,by rw[d.out];simp,by rw[d.out];exact ((Jy.out).set_ _ _).set_ _ _⟩
   case measure=>simp[intOf];omega
 obtain rfl:k=bs.length:=by omega
 clear d V;have Jp:Hid (zh n (ts.map Ty.l) bs=fH bs (F,128) bs.length):=hid (by unfold zh;rw[<-Jq.out,kz3]);have D:Hid (mU n (ts.map Ty.l) bs ss=gw ss (vY n (fH bs (F,128) bs.length)) ss.length):=hid (by unfold mU;rw[Jp.out]);obtain⟨s1,E⟩:=xq (fH bs (F,128) bs.length);rw[E] at f D |-;obtain⟨r,a⟩:=s1;dsimp only at f |-;obtain⟨wa,rfl⟩:∃wa:World,wa=wr:=⟨_,rfl⟩;have Ju:(0:Int)<=(a:Int):=by omega
 by_cases Jd:a<n
 .have u:Hid (vY n (r,a)=r.set a (cR (ei (n-a)))):=hid (by unfold vY;rw[if_pos Jd]);rw[u.out] at D;have Jg:cR (ei (n-a))=2+nQ false*256+0*512+(n-a)*65536+gM (2+nQ false*256+0*512+(n-a)*65536)%4294967296*4294967296:=rJ 2 0 (n-a) false 0 0;have C:=hid (λW=>nc 2 0 (n-a) false W (by omega) (by omega) (by omega));rw[<-Jg] at C;obtain⟨h,hh⟩:=xq (cR (ei (n-a)));rw[hh] at C D;rw[show (((n-a:Nat)):Int)=(n:Int)-(a:Int) by omega] at C;have L:=hid f;have Jv:(a:Int)<(n:Int):=by omega
  clear E Jg hh f u;go_wp2_with fail;refine (C.out _).mono ?_;rintro e w5 ⟨rfl,s⟩;have z:=L.out.up s;obtain⟨u0,c0,f0⟩:=z.cell (j:=a) (by omega);have R:=hid (z.set_ a h);clear s z;go_wp2_with fail;obtain⟨c3,Ji⟩:=xq (r.set a h);rw[Ji] at R D;clear Ji c0 f0;go_loopw [15] (λi wr=>∃k:Nat,k<=ss.length/\i=.int .i64 k/\nW w.heap.size n w wr (gw ss c3 k)) (λi _=>ss.length-(intOf i).toNat)
  case atStart=>exact⟨0,kqy _,rfl,R.out⟩
  obtain⟨k,hk,rfl,f⟩:=hrel;have d:Hid (gw ss c3 (k+1)=if 0<ss[k]?.getD 0 then (gw ss c3 k).set (112+k) (9223372041149743104+(ss[k]?.getD 0).toNat) else gw ss c3 k):=hid rfl;by_cases m:k<ss.length
  .obtain ⟨b,o,rfl,hb,q0⟩:=RdI.at_ (Rd.below HS.out f.2) m;obtain⟨Z,g2⟩:=Jh.out k m;have t:ss[k]?.getD 0=ss[k]:=by simp[m]
   rw[t] at d Z g2;obtain⟨x,I⟩:=xq (ss[k]);rw[I] at q0 d Z g2;obtain⟨c4,N⟩:=xq (gw ss c3 k);rw[N] at d f;have g:=hid f;obtain⟨u0,c0,f0⟩:=f.cell (j:=112+k) (by omega);have Ja:(k:Int)<(ss.length:Int):=by omega
   have Jb:(0:Int)<=(k:Int):=by omega
   have Jf:(k:Int)<16:=by omega
   have i1:(0:Int)<=112+(k:Int):=by omega
   have i2:(112:Int)+(k:Int)<(n:Int):=by omega
   have n1:((112:Int)+(k:Int)).toNat=112+k:=by omega
   clear I t N f;by_cases O:0<x
   .obtain ⟨v,rfl⟩:=kq1 (show 0<=x by omega);have B:=BI v (by omega);rw[if_pos O,kqj] at d;obtain⟨y,U⟩:=xq (9223372041149743104+v);rw[U] at B d;have Eq:=hid B;have Jt:IntKind.u64.wrap (v:Int)=(v:Int):=kzt _ (by omega);clear U B Z g2;go_wp2;go_roundw
    case rel=>exact⟨k+1,by omega,by go_num,by rw[d.out];have h5:=g.out.set_ (112+k) y;rw[<-Eq.out] at h5;exact h5⟩
    case measure=>simp[intOf];omega
   rw[if_neg O] at d;go_wp2;go_roundw
   case rel=>exact⟨k+1,by omega,by go_num,by rw[d.out];exact g.out⟩
   case measure=>simp[intOf];omega
  obtain rfl:k=ss.length:=by omega
  have g:=hid f;clear f d;go_wp2;go_ret;rw[<-D.out] at g;have hl:=g.out.len;exact⟨w.heap.size,n,by rw[hl];rfl,by rw[hl];exact g.out.1,g.out.2⟩
 have u:Hid (vY n (r,a)=r):=hid (by unfold vY;rw[if_neg Jd]);rw[u.out] at D;have R:=hid f;clear E f u;go_wp2_with fail;go_loopw [15] (λi wr=>∃k:Nat,k<=ss.length/\i=.int .i64 k/\nW w.heap.size n w wr (gw ss r k)) (λi _=>ss.length-(intOf i).toNat)
 case atStart=>exact⟨0,kqy _,rfl,R.out⟩
 obtain⟨k,hk,rfl,f⟩:=hrel;have d:Hid (gw ss r (k+1)=if 0<ss[k]?.getD 0 then (gw ss r k).set (112+k) (9223372041149743104+(ss[k]?.getD 0).toNat) else gw ss r k):=hid rfl;by_cases m:k<ss.length
 .obtain ⟨b,o,rfl,hb,q0⟩:=RdI.at_ (Rd.below HS.out f.2) m;obtain⟨Z,g2⟩:=Jh.out k m;have t:ss[k]?.getD 0=ss[k]:=by simp[m]
  rw[t] at d Z g2;obtain⟨x,I⟩:=xq (ss[k]);rw[I] at q0 d Z g2;obtain⟨c4,N⟩:=xq (gw ss r k);rw[N] at d f;have g:=hid f;obtain⟨u0,c0,f0⟩:=f.cell (j:=112+k) (by omega);have Ja:(k:Int)<(ss.length:Int):=by omega
  have Jb:(0:Int)<=(k:Int):=by omega
  have Jf:(k:Int)<16:=by omega
  have i1:(0:Int)<=112+(k:Int):=by omega
  have i2:(112:Int)+(k:Int)<(n:Int):=by omega
  have n1:((112:Int)+(k:Int)).toNat=112+k:=by omega
  clear I t N f;by_cases O:0<x
  .obtain ⟨v,rfl⟩:=kq1 (show 0<=x by omega);have B:=BI v (by omega);rw[if_pos O,kqj] at d;obtain⟨y,U⟩:=xq (9223372041149743104+v);rw[U] at B d;have Eq:=hid B;have Jt:IntKind.u64.wrap (v:Int)=(v:Int):=kzt _ (by omega);clear U B Z g2;go_wp2;go_roundw
   case rel=>exact⟨k+1,by omega,by go_num,by rw[d.out];have h5:=g.out.set_ (112+k) y;rw[<-Eq.out] at h5;exact h5⟩
   case measure=>simp[intOf];omega
  rw[if_neg O] at d;go_wp2;go_roundw
  case rel=>exact⟨k+1,by omega,by go_num,by rw[d.out];exact g.out⟩
  case measure=>simp[intOf];omega
 obtain rfl:k=ss.length:=by omega
 have g:=hid f;clear f d;go_wp2;go_ret;rw[<-D.out] at g;have hl:=g.out.len;exact⟨w.heap.size,n,by rw[hl];rfl,by rw[hl];exact g.out.1,g.out.2⟩
theorem Rd.of_bx{g:Nat}{t:TypeId}{cs:Array Value}(h:Bx w g t cs)(hg:g<B):Rd w B (some ⟨g,0,none⟩) cs.toList:=λ_ =>
 ⟨g,0,rfl,hg,λj hj=>by
  rw[kxa,h.cell j]
  simp⟩
def obj4 (m:Bool):Bk:=⟨0,4,1,0,m,0⟩
def fits (n:Nat) (ts:List (List Nat)) (bs:List Bk) (k:Nat):Prop:=(0<=(gk bs k).kind/\(gk bs k).kind<256)/\(0<=(gk bs k).typ/\(gk bs k).typ<128)/\(2<=(gk bs k).size/\(gk bs k).size<65536)/\(fH bs (kw ts (List.replicate n 0) ts.length,128) k).2+(gk bs k).size.toNat<=n
instance (n:Nat) (ts:List (List Nat)) (bs:List Bk) (k:Nat):Decidable (fits n ts bs k):=by unfold fits;infer_instance
end Go.Proofs.YtpcajamacpbjcaaGreat
