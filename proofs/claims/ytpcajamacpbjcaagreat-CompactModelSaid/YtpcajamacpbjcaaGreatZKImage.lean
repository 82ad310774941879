/- Texts laid together: Ref13 Bld Pair. -/
import Derived.Test.YtpcajamacpbjcaaGreatZKHeap
import Derived.Test.YtpcajamacpbjcaaGreatZKRefs
import Derived.Test.YtpcajamacpbjcaaGreatZKHead
import Derived.Test.YtpcajamacpbjcaaGreatZKMove
set_option maxHeartbeats 16000000
set_option maxRecDepth 100000
set_option linter.all false
namespace Go.Proofs.YtpcajamacpbjcaaGreat
open Lib (hid)
open Go.RowKit
variable {cur l:List Nat}{B H k n:Nat}{A:Option Addr}{w wr:World}
open Go.Proofs.Tryz
def fN:List Nat->Nat
 | []=>0
 | k::l=>fN l*4+k
theorem Hl(l:List Nat):∀j,mm l j=4 ^ j*fN l:=by
 induction l with
 | nil=>intro j;rfl
 | cons k l ih=>intro j;simp only[mm,fN,ih];rw[kji,Nat.mul_add,kjd k,kjd (fN l) 4,kvf];omega
theorem Fn(l:List Nat):fN l*256+l.length=gx l:=by unfold gx;rw[Hl,show (4:Nat) ^ 4=256 by decide];omega
theorem fN_lt(h:dd l=true):fN l<4 ^ l.length:=by
 induction l with
 | nil=>simp[fN]
 | cons k l ih =>rw[cv] at h;have h1:=ih ((cv l).2 λx a=>h x (by simp[a]));have h2:=h k (by simp);simp only[fN,kzc,kji];omega
theorem Id(hk:k<l.length):fN (l.drop k)=fN (l.drop (k+1))*4+l[k]:=by rw[kjh hk];rfl
theorem oG(h8:l.length<=8)(h:dd l=true)(k:Nat):fN (l.drop k)<65536:=by
 have a:dd (l.drop k)=true:=(cv _).2 λx b=>(cv l).1 h x (kj5 b);have h2:=fN_lt a;have h3:4 ^ (l.drop k).length<=4 ^ 8:=kjc (by omega) (by rw[kxc];omega);have h4:(4:Nat) ^ 8=65536:=by decide
 omega
theorem wJ(A:Option Addr)(l:List Nat)(c n B:Nat)(w:World)(hn:l.length=n)(h8:n<=8)(g:dd l=true)(hr:RdY w B A l):
 Calls prog 137 #[.slice A n c] w λe w'=>e=.returned (.int .u64 (gx l:Nat))/\w=w':=by
 subst hn;have u:=hid hr;have t:=hid (Fn l);have j:=hid g;clear hr g;go_enter func137,ntmps137;go_wp2_with fail
 go_loop [3,4] (λs i=>∃k:Nat,k<=l.length/\i=.int .i64 ((k:Int)-1)/\s=.int .u64 (fN (l.drop k):Nat)) (λ_ i=>(intOf i+1).toNat)
 case atStart=>exact⟨l.length,kqg _,rfl,by rw[kvc];rfl⟩
 obtain⟨k,g,rfl,rfl⟩:=hrel;cases k with
 | zero =>
  have a:=oG h8 j.out 0;rw[List.drop_zero] at a |-;obtain⟨q,f⟩:=xq (fN l);rw[f] at a t |-;have h:(0:Int)<=(q:Int):=by omega
  have p:(q:Int)<65536:=by omega
  clear f;go_wp2;go_ret;exact⟨by rw[<-t.out];try simp,rfl⟩
 | succ k =>
  rw[show (((k+1:Nat):Int)-1)=(k:Int) by omega];have a:k<l.length:=by omega
  obtain⟨b,off,rfl,hb,v⟩:=u.out.at_ a;have f:=oG h8 j.out (k+1);have o:=hid (Id a);have m:=((cv l).1 j.out l[k] (kqm a)).2;obtain⟨x,r⟩:=xq (l[k]);obtain⟨q,d⟩:=xq (fN (l.drop (k+1)));rw[r] at v o m;rw[d] at f o |-;have h:(0:Int)<=(q:Int):=by omega
  have p:(q:Int)<65536:=by omega
  have hx0:(0:Int)<=(x:Int):=by omega
  have hx1:(x:Int)<=3:=by omega
  have hk0:(0:Int)<=(k:Int):=by omega
  have hkl:(k:Int)<(l.length:Int):=by omega
  clear r d;go_wp2_with fail
  go_round
  case rel=>exact⟨k,by omega,rfl,by rw[o.out];simp⟩
  case measure=>simp[intOf]<;>omega
theorem oz(A:Option Addr)(l:List Nat)(c n B:Nat)(w:World)(hn:l.length=n)(h8:n<=8)(d:dd l=true)(hr:RdY w B A l):
 Calls prog 136 #[.slice A n c] w λe w'=>e=.returned (.int .i64 0)/\w=w':=by
 subst hn;have g:=hid hr;have h:=hid d;clear hr d;go_enter func136,ntmps136;go_wp2_with fail
 go_loop [3] (λi=>∃k:Nat,k<=l.length/\i=.int .i64 k) (λi=>l.length-(intOf i).toNat)
 case atStart=>exact⟨0,kqy _,rfl⟩
 obtain⟨k,d,rfl⟩:=hrel;by_cases a:k<l.length
 .obtain ⟨b,off,rfl,hb,m⟩:=g.out.at_ a;obtain⟨j,o⟩:=(cv l).1 h.out l[k] (kqm a);obtain⟨x,f⟩:=xq (l[k]);rw[f] at m j o;have e1:((x:Int)==0)=false:=by rw[kqi];omega
  clear f;go_wp2_with fail
  go_round
  case rel=>exact⟨k+1,by omega,by go_num⟩
  case measure=>simp[intOf];omega
 go_wp2;go_ret;exact⟨rfl,rfl⟩
theorem po(A:Option Addr)(l:List Nat)(c n:Nat)(w:World)(hn:l.length=n)(hm:n<=2048)(hr:RdW w w.heap.size A l)(ho:∀x∈l,x<18446744073709551616):
 Calls prog 138 #[.slice A n c] w λe w'=>e=.returned (.int .u64 (a8 14695981039346656037 l:Nat))/\Below w.heap.size w w':=by have b:=hid (tV 14695981039346656037 A l c n w hn hm (by omega) hr ho);clear hr ho;obtain⟨q,d⟩:=xq (a8 14695981039346656037 l);rw[d] at b |-;clear d;go_enter func138,ntmps138;go_wp2_with fail;refine b.out.mono ?_;rintro e w1 ⟨rfl,a⟩;go_wp2;go_ret;exact⟨rfl,a⟩
theorem xK(A:Option Addr)(l:List Nat)(c n H:Nat)(w:World)(hn:l.length=n)(h8:n<=8)(hk:dd l=true)(hr:RdY w H A l)(hH:H<=w.heap.size):
 Calls prog 89 #[.slice A n c] w λe w'=>e=.returned (.tuple #[yR (gx l) (gc (gx l)),.int .i64 0])/\Below w.heap.size w w':=by
 have b:RdY (w.alloc (.cells #[.int .u64 0,.int .u64 0] 157)) H A l:=Rd.alloc hr hH _;have F:=hid (oz A l c n H (w.alloc (.cells #[.int .u64 0,.int .u64 0] 157)) hn h8 hk b);have u:=hid (wJ A l c n H (w.alloc (.cells #[.int .u64 0,.int .u64 0] 157)) hn h8 hk b);have D:=Bx.new w 157 #[.int .u64 0,.int .u64 0];have k:=Aa (by omega) hk;have f:Hid (a8 14695981039346656037 [gx l]=gc (gx l)):=hid rfl;obtain⟨q,E⟩:=xq (gx l);rw[E] at u k f |-;have B:Hid (yR q (gc q)=.agg #[.int .u64 (q:Int),.int .u64 (gc q:Nat)]):=hid rfl;have t:(prog.info? 157).map (·.size)=some 2:=by kernel_rfl
 have G:=hid D;clear hr b hk E D hn;go_enter func89,ntmps89;go_wp2_with fail;refine F.out.mono ?_;rintro e s ⟨rfl,rfl⟩;go_wp2_with fail;refine u.out.mono ?_;rintro e s ⟨rfl,rfl⟩;go_wp2_with fail;refine u.out.mono ?_;rintro e s ⟨rfl,rfl⟩;go_wp2_with fail;have d:=nu (w.alloc (.cells #[.int .u64 0,.int .u64 0] 157)) [.int .u64 (q:Int)] 53;refine (po _ [q] _ 1 _ rfl (by omega) (by simp only[kqn] at d |-;exact d) (by intro y C;simp at C;subst C;omega)).mono ?_;rintro e s ⟨rfl,a⟩;rw[kqn,kqn] at a;have i:=(((kql _ _).alloc (kqg _) (.cells #[.int .u64 0,.int .u64 0] 157)).alloc (by simp) (.cells #[.int .u64 (q:Int)] 53)).trans (a.mono (by omega));have h:=(G.out.alloc (.cells #[.int .u64 (q:Int)] 53)).up a (by omega);have r:=hid h;have m:=hid i;rw[f.out];obtain⟨z,x⟩:=xq (gc q);have I:=hid x;rw[x] at B |-;clear x h i a d;go_wp2_with ((with_reducible refine bt 157 (.tmp 2) _ ?_);refine am rfl _ _ _ rfl w.heap.size 157 #[.int .u64 0,.int .u64 0] #[.int .u64 (q:Int),.int .u64 (z:Int)] (by rfl) (by rfl) r.out rfl t (by simp[Value.oneCell']) ?_;intro w3 g j;have o:=hid g;have p:=hid j;clear g j);exact kqv (v:=.tuple #[.agg #[.int .u64 (q:Int),.int .u64 (z:Int)],.int .i64 0]) (jy results89 _ o.out rfl rfl) rfl ⟨by rw[I.out,B.out],p.out.below m.out (kqg _)⟩
def Ih (w:List Nat) (i:Nat) (t:List Nat):List Nat:=(w.set (96+2*i) (gx t)).set (96+2*i+1) (gc (gx t))
def ko (ts:List (List Nat)) (w:List Nat):Nat->List Nat
 | 0=>w
 | k+1=>Ih (ko ts w k) k (ts[k]?.getD [])
def GO (w:List Nat) (a:Nat) (b:Bk):List Nat:=(w.set a (cg b)).set (a+1) b.next
def fo (bs:List Bk) (s:List Nat × Nat):Nat->List Nat × Nat
 | 0=>s
 | k+1=>(GO (fo bs s k).1 (fo bs s k).2 (gk bs k),(fo bs s k).2+(gk bs k).size.toNat)
def cJ (n:Nat):Bk:=⟨0,(n:Int),2,0,false,0⟩
def xI (n:Nat) (s:List Nat × Nat):List Nat:=if s.2<n then s.1.set s.2 (cg (cJ (n-s.2))) else s.1
def fX (ss:List Int) (w:List Nat):Nat->List Nat
 | 0=>w
 | k+1=>if 0<ss[k]?.getD 0 then (fX ss w k).set (112+k) (9223372041149743104+(ss[k]?.getD 0).toNat) else fX ss w k
def Ap (n:Nat) (ts:List (List Nat)) (bs:List Bk):List Nat × Nat:=fo bs (ko ts (List.replicate n 0) ts.length,128) bs.length
def nf (n:Nat) (ts:List (List Nat)) (bs:List Bk) (ss:List Int):List Nat:=fX ss (xI n (Ap n ts bs)) ss.length
theorem vH(n:Nat):(List.replicate n 0).flatMap ai=List.replicate n (.int .u64 0):=by
 induction n with
 | zero=>rfl
 | succ n ih=>rw[kjv,kzy,ih,kjv];rfl
theorem rv(K T S:Nat)(m:Bool)(a:Int)(x:Nat):cg ⟨a,(S:Int),(K:Int),(T:Int),m,x⟩=K+nD m*256+T*512+S*65536+gc (K+nD m*256+T*512+S*65536)%4294967296*4294967296:=by unfold cg ks;simp only[kqk]
structure Ty where
 A:Option Addr
 c:Nat
 l:List Nat
 deriving Inhabited
def Ty.cells (x:Ty):List Value:=[.slice x.A x.l.length x.c]
theorem Ty.len(x:Ty):x.cells.length=1:=rfl
def RdT (w:World) (B:Nat) (A:Option Addr) (ts:List Ty):Prop:=Rd w B A (ts.flatMap Ty.cells)/\∀x∈ts,RdY w B x.A x.l/\x.l.length<=8/\dd x.l=true
theorem RdT.at_{l:List Ty}(h:RdT w B A l)(hk:k<l.length):
 ∃b a,A=some ⟨b,a,none⟩/\b<B/\w.cell? ⟨b,a+k,none⟩=some (.slice l[k].A l[k].l.length l[k].c)/\RdY w B l[k].A l[k].l/\l[k].l.length<=8/\dd l[k].l=true:=by obtain⟨b,a,e,i,j⟩:=Rd.at_flat Ty.len h.1 (by omega) hk;have:=j 0 (by omega);simp only[kxn,kxd] at this;obtain⟨d,f,g⟩:=h.2 l[k] (kqm hk);exact⟨b,a,e,i,this,d,f,g⟩
theorem RdT.below{w':World}{l:List Ty}(h:RdT w B A l)(hb:Below B w w'):RdT w' B A l:=⟨h.1.below hb,λx a=>⟨(h.2 x a).1.below hb,(h.2 x a).2⟩⟩
theorem RdT.more{B':Nat}{l:List Ty}(h:RdT w B A l)(hB:B<=B'):RdT w B' A l:=⟨h.1.more hB,λx a=>⟨(h.2 x a).1.more hB,(h.2 x a).2⟩⟩
theorem RdT.nil_ :RdT w B none []:=⟨Rd.nil_,λx h=>by cases h⟩
def nI (H n:Nat) (w wr:World) (cur:List Nat):Prop:=wr.ownsRow H 53 1 (.slice (some ⟨H,0,none⟩) n n) n (cur.flatMap ai)/\Below H w wr
theorem nI.len(h:nI H n w wr cur):cur.length=n:=by have:=h.1.1;rw[iS] at this;omega
theorem nI.set_(h:nI H n w wr cur)(j v:Nat):nI H n w (wr.setCell ⟨H,j,none⟩ (.int .u64 (v:Int))) (cur.set j v):=by refine⟨?_,h.2.setCell (p:=⟨H,j,none⟩) (kqg _) _⟩;rw[jV];exact (h.1.stored j (.int .u64 (v:Int))).1
theorem nI.alloc(h:nI H n w wr cur)(o:Obj):nI H n w (wr.alloc o) cur:=⟨h.1.alloc o,h.2.alloc (kjq (h.1.lt H rfl).2) o⟩
theorem nI.drew(h:nI H n w wr cur):nI H n w wr.drew cur:=⟨h.1,h.2.drew⟩
theorem nI.up{w1:World}(h:nI H n w wr cur)(hb:Below wr.heap.size wr w1):nI H n w w1 cur:=⟨aj h.1 hb (kqg _),h.2.trans (hb.mono (kjq (h.1.lt H rfl).2))⟩
theorem nI.cell(h:nI H n w wr cur){j:Nat}(hj:j<n):∃u,wr.cell? ⟨H,j,none⟩=some u/\wr.frozen? ⟨H,j,none⟩=false:=
 ⟨_,(h.1.cellAt j (by omega)).trans (mu cur j (by rw[h.len];exact hj)),h.1.frozenAt j⟩
theorem zL(v:Nat)(hv:v<4294967296):bits BinOp.or .u64 9223372041149743104 (v:Int)=((9223372041149743104+v:Nat):Int):=by
 have h:=u64_or_nat 9223372041149743104 v (by omega) (by omega);have e:9223372041149743104 ||| v=9223372041149743104+v:=by rw[Nat.or_comm,show (9223372041149743104:Nat)=2147483649*2 ^ 32 by decide,jC (i:=32) (by omega),kj0]
 rw[e] at h;exact h
theorem tr(TA BA SA:Option Addr)(ts:List Ty)(bs:List Bk)(ss:List Int)(tc bc sc n H:Nat)(w:World)(hn:n<=2048)(h128:128<=n)(hT:RdT w H TA ts)(ht8:ts.length<=8)(hB0:RdB w H BA bs)(hS:RdI w H SA ss)(hs16:ss.length<=16)(hH:H<=w.heap.size)(hb2:bs.length<=2048)(hbs:∀k,k<bs.length->(0<=(gk bs k).kind/\(gk bs k).kind<256)/\(0<=(gk bs k).typ/\(gk bs k).typ<128)/\(2<=(gk bs k).size/\(gk bs k).size<65536)/\(fo bs (ko (ts.map Ty.l) (List.replicate n 0) ts.length,128) k).2+(gk bs k).size.toNat<=n)(hss:∀k,k<ss.length->ss[k]?.getD 0<4294967296 /\ -4294967296<ss[k]?.getD 0):
 Calls prog 47 #[.int .i64 (n:Int),.slice TA ts.length tc,.slice BA bs.length bc,.slice SA ss.length sc] w λe w'=>CY w (nf n (ts.map Ty.l) bs ss) e w':=by
 have HT:=hid (hT.more hH);have Ju:=hid (hB0.more hH);have HS:=hid (hS.more hH);have Y:=hid hbs;have Ji:=hid hss;clear hT hB0 hS hH hbs hss;obtain⟨i0,hi,Jd,Jn,Jg⟩:=kzt me;obtain⟨W0,Jq,I,Jf⟩:=run_make_full (P:=prog) w w.heap.size 22 53 i0 (.int .u64 0) 1 underlying22 hi Jd Jn .i64 .i64 n (by rw[Jg];omega) (by unfold maxLen;omega) (kqg _);have Jl:=hid (show nI w.heap.size n w W0 (List.replicate n 0) from ⟨by rw[vH,<-toList_madeCells_one];have:=I;rw[kxn] at this;exact this,(kql _ _).grown Jf (kqg _) (λk hk=>by cases hk)⟩);clear I Jf hi Jd Jn Jg;go_enter func47,ntmps47;go_wp2_with fail;clear Jq;go_loopw [10] (λi wr=>∃k:Nat,k<=ts.length/\i=.int .i64 k/\nI w.heap.size n w wr (ko (ts.map Ty.l) (List.replicate n 0) k)) (λi _=>ts.length-(intOf i).toNat)
 case atStart=>exact⟨0,kqy _,rfl,Jl.out⟩
 obtain⟨k,hk,rfl,f⟩:=hrel;by_cases m:k<ts.length
 .obtain ⟨b,o,rfl,hb,h0,U,Jp,Jh⟩:=RdT.at_ (HT.out.below f.2) m;have d:Hid (ko (ts.map Ty.l) (List.replicate n 0) (k+1)=Ih (ko (ts.map Ty.l) (List.replicate n 0) k) k ts[k].l):=hid (by simp[ko,m]);have HC:=hid (xK ts[k].A ts[k].l ts[k].c ts[k].l.length w.heap.size wr rfl Jp Jh U f.2.size);obtain⟨x,N⟩:=xq (ts[k]);rw[N] at h0 d HC;obtain⟨xA,xc,xl⟩:=x;dsimp only at h0 d HC;obtain⟨p,hp⟩:=xq (gx xl);obtain⟨q,hq⟩:=xq (gc p);unfold Ih at d;unfold yR at HC;rw[hp,hq] at HC d;have HO:=hid f;have Eq:(k:Int)<(ts.length:Int):=by omega
  have Jb:(0:Int)<=(k:Int):=by omega
  have w1:IntKind.i64.wrap (2*(k:Int))=2*(k:Int):=kqr _ (by omega);have w2:IntKind.i64.wrap (96+2*(k:Int))=96+2*(k:Int):=kqr _ (by omega);have w3:IntKind.i64.wrap (96+2*(k:Int)+1)=96+2*(k:Int)+1:=kqr _ (by omega);have i1:(0:Int)<=96+2*(k:Int):=by omega
  have i2:(96:Int)+2*(k:Int)<(n:Int):=by omega
  have i3:(0:Int)<=96+2*(k:Int)+1:=by omega
  have i4:(96:Int)+2*(k:Int)+1<(n:Int):=by omega
  have n1:((96:Int)+2*(k:Int)).toNat=96+2*k:=by omega
  have n2:((96:Int)+2*(k:Int)+1).toNat=96+2*k+1:=by omega
  clear N hp hq f U Jh;go_wp2_with fail;refine HC.out.mono ?_;rintro e L ⟨rfl,Ja⟩;have O:=(HO.out.up Ja).alloc (.cells #[.int .u64 (p:Int),.int .u64 (q:Int)] 157);have bx:=Bx.new L 157 #[.int .u64 (p:Int),.int .u64 (q:Int)];go_wp2_with fail;obtain⟨W,hW⟩:∃W,L.alloc (.cells #[.int .u64 (p:Int),.int .u64 (q:Int)] 157)=W:=⟨_,rfl⟩;rw[hW] at O bx |-;obtain⟨x0,x1,-,-,hgg⟩:=bx.c2;obtain⟨u0,c0,f0⟩:=O.cell (j:=96+2*k) (by omega);obtain⟨u1,c1,f1⟩:=O.cell (j:=96+2*k+1) (by omega);have hne:w.heap.size≠L.heap.size:=by have:=HO.out.2.size;have:=Ja.size;have:=HO.out.1.lt w.heap.size rfl;omega
  have J:=hid O;clear hW O bx Ja
  first
   | (go_region_held3 (λX:World=>X.cell? ⟨L.heap.size,0,none⟩=some (.int .u64 (p:Int))/\X.cell? ⟨L.heap.size,1,none⟩=some (.int .u64 (q:Int))) (go_keep) (fail))
   | fail
  all_goals
   go_wp2;go_roundw
   case rel=>exact⟨k+1,by omega,by go_num,by rw[d.out];exact ((J.out.drew).set_ _ _).set_ _ _⟩
   case measure=>simp[intOf];omega
 obtain rfl:k=ts.length:=by omega
 obtain⟨F,Jc⟩:=xq (ko (ts.map Ty.l) (List.replicate n 0) ts.length);have Jt:=hid Jc;rw[Jc] at f Y;have HO:=hid f;obtain⟨wa,rfl⟩:∃wa:World,wa=wr:=⟨_,rfl⟩;clear Jc f Jl;go_wp2_with fail;go_loopw [13,14] (λp i wr=>∃k:Nat,k<=bs.length/\i=.int .i64 k/\p=.int .i64 ((fo bs (F,128) k).2:Nat)/\nI w.heap.size n w wr (fo bs (F,128) k).1) (λ_ i _=>bs.length-(intOf i).toNat)
 case atStart=>exact⟨0,kqy _,rfl,rfl,HO.out⟩
 obtain⟨k,hk,rfl,rfl,f⟩:=hrel;have d:Hid (fo bs (F,128) (k+1)=(GO (fo bs (F,128) k).1 (fo bs (F,128) k).2 (gk bs k),(fo bs (F,128) k).2+(gk bs k).size.toNat)):=hid rfl;by_cases m:k<bs.length
 .obtain ⟨b,o,rfl,hb,Z,q1,q2,q3,q4,q5⟩:=RdB.at_ (Rd.below Ju.out f.2) m;obtain⟨⟨e1,e2⟩,⟨e3,e4⟩,⟨e5,e6⟩,e7⟩:=Y.out k m;rw[<-bB bs k m] at Z q1 q2 q3 q4 q5;obtain⟨x,N⟩:=xq (gk bs k);obtain⟨s1,E⟩:=xq (fo bs (F,128) k);rw[N] at Z q1 q2 q3 q4 q5 d e1 e2 e3 e4 e5 e6 e7;rw[E] at d f e7 |-;obtain⟨xa,xs,xk,xt,xm,xn⟩:=x;obtain⟨r,a⟩:=s1;dsimp only at Z q1 q2 q3 q4 q5 e1 e2 e3 e4 e5 e6 e7 f d |-;obtain⟨K,rfl⟩:=kq5 e1;obtain⟨T,rfl⟩:=kq5 e3;obtain⟨S,rfl⟩:=kq5 (show 0<=xs by omega);simp only[kqk] at e7 d;unfold GO at d;rw[rv] at d;have B:=hid (λW=>nm K T S xm W (by omega) (by omega) (by omega));obtain⟨h,hh⟩:=xq (K+nD xm*256+T*512+S*65536+gc (K+nD xm*256+T*512+S*65536)%4294967296*4294967296);rw[hh] at d B;have J:=hid f;have Eq:(k:Int)<(bs.length:Int):=by omega
  have Jb:(0:Int)<=(k:Int):=by omega
  have Jr:(0:Int)<=(a:Int):=by omega
  have Jw:(a:Int)<(n:Int):=by omega
  have ha2:(a:Int)+1<(n:Int):=by omega
  have ha3:(0:Int)<=(a:Int)+1:=by omega
  have hwr:IntKind.i64.wrap ((a:Int)+1)=(a:Int)+1:=kqr _ (by omega);have htn:((a:Int)+1).toNat=a+1:=by omega
  have hle:(a:Int)+(S:Int)<=(n:Int):=by omega
  have hS0:(0:Int)<=(S:Int):=by omega
  have hbh:b<w.heap.size:=hb;have G:b<wr.heap.size:=by have:=f.2.size;omega
  have hbn:b≠w.heap.size:=by omega
  have hbn2:w.heap.size≠b:=by omega
  clear N E hh f e1 e2 e3 e4 e5 e6;go_wp2_with fail
  first
   | (go_region_held3 (λX:World=>X.cell? ⟨b,o+k*6+1,none⟩=some (.int .i64 (S:Int))/\X.cell? ⟨b,o+k*6+2,none⟩=some (.int .i64 (K:Int))/\X.cell? ⟨b,o+k*6+3,none⟩=some (.int .i64 (T:Int))/\X.cell? ⟨b,o+k*6+4,none⟩=some (.bool xm)/\X.cell? ⟨b,o+k*6+5,none⟩=some (.int .u64 (xn:Int))) (go_keep)
    (first | (go_at_call 90;refine (B.out _).mono ?_;rintro e w5 ⟨rfl,s⟩;have m1:=(s.cell (p:=⟨b,o+k*6+1,none⟩) G).trans q1;have m2:=(s.cell (p:=⟨b,o+k*6+2,none⟩) G).trans q2;have m3:=(s.cell (p:=⟨b,o+k*6+3,none⟩) G).trans q3;have m4:=(s.cell (p:=⟨b,o+k*6+4,none⟩) G).trans q4;have m5:=(s.cell (p:=⟨b,o+k*6+5,none⟩) G).trans q5;have u:=J.out.drew.up s;obtain⟨u0,c0,f0⟩:=u.cell (j:=a) (by omega);obtain⟨u1,c1,f1⟩:=u.cell (j:=a+1) (by omega);have Jo:=hid u;clear s u)))
   | fail
  all_goals
   go_wp2;go_roundw
   case rel=>exact⟨k+1,by omega,by go_num,by rw[d.out];simp,by rw[d.out];exact ((Jo.out).set_ _ _).set_ _ _⟩
   case measure=>simp[intOf];omega
 obtain rfl:k=bs.length:=by omega
 clear d Y;have Jv:Hid (Ap n (ts.map Ty.l) bs=fo bs (F,128) bs.length):=hid (by unfold Ap;rw[<-Jt.out,kqs]);have C:Hid (nf n (ts.map Ty.l) bs ss=fX ss (xI n (fo bs (F,128) bs.length)) ss.length):=hid (by unfold nf;rw[Jv.out]);obtain⟨s1,E⟩:=xq (fo bs (F,128) bs.length);rw[E] at f C |-;obtain⟨r,a⟩:=s1;dsimp only at f |-;obtain⟨wa,rfl⟩:∃wa:World,wa=wr:=⟨_,rfl⟩;have Jr:(0:Int)<=(a:Int):=by omega
 by_cases Je:a<n
 .have z:Hid (xI n (r,a)=r.set a (cg (cJ (n-a)))):=hid (by unfold xI;rw[if_pos Je]);rw[z.out] at C;have Jk:cg (cJ (n-a))=2+nD false*256+0*512+(n-a)*65536+gc (2+nD false*256+0*512+(n-a)*65536)%4294967296*4294967296:=rv 2 0 (n-a) false 0 0;have B:=hid (λW=>nm 2 0 (n-a) false W (by omega) (by omega) (by omega));rw[<-Jk] at B;obtain⟨h,hh⟩:=xq (cg (cJ (n-a)));rw[hh] at B C;rw[show (((n-a:Nat)):Int)=(n:Int)-(a:Int) by omega] at B;have J:=hid f;have Jw:(a:Int)<(n:Int):=by omega
  clear E Jk hh f z;go_wp2_with fail;refine (B.out _).mono ?_;rintro e w5 ⟨rfl,s⟩;have u:=J.out.up s;obtain⟨u0,c0,f0⟩:=u.cell (j:=a) (by omega);have R:=hid (u.set_ a h);clear s u;go_wp2_with fail;obtain⟨c3,Jm⟩:=xq (r.set a h);rw[Jm] at R C;clear Jm c0 f0;go_loopw [15] (λi wr=>∃k:Nat,k<=ss.length/\i=.int .i64 k/\nI w.heap.size n w wr (fX ss c3 k)) (λi _=>ss.length-(intOf i).toNat)
  case atStart=>exact⟨0,kqy _,rfl,R.out⟩
  obtain⟨k,hk,rfl,f⟩:=hrel;have d:Hid (fX ss c3 (k+1)=if 0<ss[k]?.getD 0 then (fX ss c3 k).set (112+k) (9223372041149743104+(ss[k]?.getD 0).toNat) else fX ss c3 k):=hid rfl;by_cases m:k<ss.length
  .obtain ⟨b,o,rfl,hb,Z⟩:=RdI.at_ (Rd.below HS.out f.2) m;obtain⟨g1,g2⟩:=Ji.out k m;have t:ss[k]?.getD 0=ss[k]:=by simp[m]
   rw[t] at d g1 g2;obtain⟨x,N⟩:=xq (ss[k]);rw[N] at Z d g1 g2;obtain⟨c4,M⟩:=xq (fX ss c3 k);rw[M] at d f;have g:=hid f;obtain⟨u0,c0,f0⟩:=f.cell (j:=112+k) (by omega);have Eq:(k:Int)<(ss.length:Int):=by omega
   have Jb:(0:Int)<=(k:Int):=by omega
   have Jj:(k:Int)<16:=by omega
   have i1:(0:Int)<=112+(k:Int):=by omega
   have i2:(112:Int)+(k:Int)<(n:Int):=by omega
   have n1:((112:Int)+(k:Int)).toNat=112+k:=by omega
   clear N t M f;by_cases Q:0<x
   .obtain ⟨v,rfl⟩:=kq5 (show 0<=x by omega);have D:=zL v (by omega);rw[if_pos Q,kqk] at d;obtain⟨y,U⟩:=xq (9223372041149743104+v);rw[U] at D d;have V:=hid D;have Js:IntKind.u64.wrap (v:Int)=(v:Int):=kzs _ (by omega);clear U D g1 g2;go_wp2;go_roundw
    case rel=>exact⟨k+1,by omega,by go_num,by rw[d.out];have h5:=g.out.set_ (112+k) y;rw[<-V.out] at h5;exact h5⟩
    case measure=>simp[intOf];omega
   rw[if_neg Q] at d;go_wp2;go_roundw
   case rel=>exact⟨k+1,by omega,by go_num,by rw[d.out];exact g.out⟩
   case measure=>simp[intOf];omega
  obtain rfl:k=ss.length:=by omega
  have g:=hid f;clear f d;go_wp2;go_ret;rw[<-C.out] at g;have hl:=g.out.len;exact⟨w.heap.size,n,by rw[hl];rfl,by rw[hl];exact g.out.1,g.out.2⟩
 have z:Hid (xI n (r,a)=r):=hid (by unfold xI;rw[if_neg Je]);rw[z.out] at C;have R:=hid f;clear E f z;go_wp2_with fail;go_loopw [15] (λi wr=>∃k:Nat,k<=ss.length/\i=.int .i64 k/\nI w.heap.size n w wr (fX ss r k)) (λi _=>ss.length-(intOf i).toNat)
 case atStart=>exact⟨0,kqy _,rfl,R.out⟩
 obtain⟨k,hk,rfl,f⟩:=hrel;have d:Hid (fX ss r (k+1)=if 0<ss[k]?.getD 0 then (fX ss r k).set (112+k) (9223372041149743104+(ss[k]?.getD 0).toNat) else fX ss r k):=hid rfl;by_cases m:k<ss.length
 .obtain ⟨b,o,rfl,hb,Z⟩:=RdI.at_ (Rd.below HS.out f.2) m;obtain⟨g1,g2⟩:=Ji.out k m;have t:ss[k]?.getD 0=ss[k]:=by simp[m]
  rw[t] at d g1 g2;obtain⟨x,N⟩:=xq (ss[k]);rw[N] at Z d g1 g2;obtain⟨c4,M⟩:=xq (fX ss r k);rw[M] at d f;have g:=hid f;obtain⟨u0,c0,f0⟩:=f.cell (j:=112+k) (by omega);have Eq:(k:Int)<(ss.length:Int):=by omega
  have Jb:(0:Int)<=(k:Int):=by omega
  have Jj:(k:Int)<16:=by omega
  have i1:(0:Int)<=112+(k:Int):=by omega
  have i2:(112:Int)+(k:Int)<(n:Int):=by omega
  have n1:((112:Int)+(k:Int)).toNat=112+k:=by omega
  clear N t M f;by_cases Q:0<x
  .obtain ⟨v,rfl⟩:=kq5 (show 0<=x by omega);have D:=zL v (by omega);rw[if_pos Q,kqk] at d;obtain⟨y,U⟩:=xq (9223372041149743104+v);rw[U] at D d;have V:=hid D;have Js:IntKind.u64.wrap (v:Int)=(v:Int):=kzs _ (by omega);clear U D g1 g2;go_wp2;go_roundw
   case rel=>exact⟨k+1,by omega,by go_num,by rw[d.out];have h5:=g.out.set_ (112+k) y;rw[<-V.out] at h5;exact h5⟩
   case measure=>simp[intOf];omega
  rw[if_neg Q] at d;go_wp2;go_roundw
  case rel=>exact⟨k+1,by omega,by go_num,by rw[d.out];exact g.out⟩
  case measure=>simp[intOf];omega
 obtain rfl:k=ss.length:=by omega
 have g:=hid f;clear f d;go_wp2;go_ret;rw[<-C.out] at g;have hl:=g.out.len;exact⟨w.heap.size,n,by rw[hl];rfl,by rw[hl];exact g.out.1,g.out.2⟩
theorem Rd.of_bx{g:Nat}{t:TypeId}{cs:Array Value}(h:Bx w g t cs)(hg:g<B):Rd w B (some ⟨g,0,none⟩) cs.toList:=λ_ =>
 ⟨g,0,rfl,hg,λj hj=>by
  rw[kxm,h.cell j]
  simp⟩
def obj4 (m:Bool):Bk:=⟨0,4,1,0,m,0⟩
def fits (n:Nat) (ts:List (List Nat)) (bs:List Bk) (k:Nat):Prop:=(0<=(gk bs k).kind/\(gk bs k).kind<256)/\(0<=(gk bs k).typ/\(gk bs k).typ<128)/\(2<=(gk bs k).size/\(gk bs k).size<65536)/\(fo bs (ko ts (List.replicate n 0) ts.length,128) k).2+(gk bs k).size.toNat<=n
instance (n:Nat) (ts:List (List Nat)) (bs:List Bk) (k:Nat):Decidable (fits n ts bs k):=by unfold fits;infer_instance
end Go.Proofs.YtpcajamacpbjcaaGreat
