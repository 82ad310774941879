/- Texts laid together: Ref13 Bld Pair. -/
import Derived.Test.YtpcajamacpbjcaaGreatZKHeap
import Derived.Test.YtpcajamacpbjcaaGreatZKRefs
import Derived.Test.YtpcajamacpbjcaaGreatZKHead
import Derived.Test.YtpcajamacpbjcaaGreatZKMove
set_option maxHeartbeats 16000000
set_option maxRecDepth 100000
set_option linter.all false
namespace Go.Proofs.YtpcajamacpbjcaaGreat
open Lib (hid)
open Go.RowKit
variable {cur l:List Nat}{B H k n:Nat}{A:Option Addr}{w wr:World}
open Go.Proofs.Tryz
def fN:List Nat->Nat
 | []=>0
 | k::l=>fN l*4+k
theorem GW(l:List Nat):∀j,qZ l j=4 ^ j*fN l:=by
 induction l with
 | nil=>intro j;rfl
 | cons k l ih=>intro j;simp only[qZ,fN,ih];rw[kj0,Nat.mul_add,kj9 k,kj9 (fN l) 4,kvo];omega
theorem Gh(l:List Nat):fN l*256+l.length=iN l:=by unfold iN;rw[GW,show (4:Nat) ^ 4=256 by decide];omega
theorem fN_lt(h:eV l=true):fN l<4 ^ l.length:=by
 induction l with
 | nil=>simp[fN]
 | cons k l ih =>rw[cQ] at h;have h1:=ih ((cQ l).2 λx a=>h x (by simp[a]));have h2:=h k (by simp);simp only[fN,kq1,kj0];omega
theorem Gf(hk:k<l.length):fN (l.drop k)=fN (l.drop (k+1))*4+l[k]:=by rw[kxq hk];rfl
theorem ot(h8:l.length<=8)(h:eV l=true)(k:Nat):fN (l.drop k)<65536:=by
 have b:eV (l.drop k)=true:=(cQ _).2 λx a=>(cQ l).1 h x (kx1 a);have h2:=fN_lt b;have h3:4 ^ (l.drop k).length<=4 ^ 8:=kxz (by omega) (by rw[kzj];omega);have h4:(4:Nat) ^ 8=65536:=by decide
 omega
theorem vu(A:Option Addr)(l:List Nat)(c n B:Nat)(w:World)(hn:l.length=n)(h8:n<=8)(g:eV l=true)(hr:RdY w B A l):
 Calls prog 137 #[.slice A n c] w λe w'=>e=.returned (.int .u64 (iN l:Nat))/\w=w':=by
 subst hn;have v:=hid hr;have t:=hid (Gh l);have j:=hid g;clear hr g;go_enter func137,ntmps137;go_wp2_with fail
 go_loop [3,4] (λs i=>∃k:Nat,k<=l.length/\i=.int .i64 ((k:Int)-1)/\s=.int .u64 (fN (l.drop k):Nat)) (λ_ i=>(intOf i+1).toNat)
 case atStart=>exact⟨l.length,kqa _,rfl,by rw[kj5];rfl⟩
 obtain⟨k,g,rfl,rfl⟩:=hrel;cases k with
 | zero =>
  have a:=ot h8 j.out 0;rw[List.drop_zero] at a |-;obtain⟨q,f⟩:=xq (fN l);rw[f] at a t |-;have o:(0:Int)<=(q:Int):=by omega
  have h:(q:Int)<65536:=by omega
  clear f;go_wp2;go_ret;exact⟨by rw[<-t.out];try simp,rfl⟩
 | succ k =>
  rw[show (((k+1:Nat):Int)-1)=(k:Int) by omega];have a:k<l.length:=by omega
  obtain⟨b,off,rfl,hb,u⟩:=v.out.at_ a;have f:=ot h8 j.out (k+1);have m:=hid (Gf a);have p:=((cQ l).1 j.out l[k] (kqp a)).2;obtain⟨x,r⟩:=xq (l[k]);obtain⟨q,d⟩:=xq (fN (l.drop (k+1)));rw[r] at u m p;rw[d] at f m |-;have o:(0:Int)<=(q:Int):=by omega
  have h:(q:Int)<65536:=by omega
  have hx0:(0:Int)<=(x:Int):=by omega
  have hx1:(x:Int)<=3:=by omega
  have hk0:(0:Int)<=(k:Int):=by omega
  have hkl:(k:Int)<(l.length:Int):=by omega
  clear r d;go_wp2_with fail
  go_round
  case rel=>exact⟨k,by omega,rfl,by rw[m.out];simp⟩
  case measure=>simp[intOf]<;>omega
theorem we(A:Option Addr)(l:List Nat)(c n B:Nat)(w:World)(hn:l.length=n)(h8:n<=8)(d:eV l=true)(hr:RdY w B A l):
 Calls prog 136 #[.slice A n c] w λe w'=>e=.returned (.int .i64 0)/\w=w':=by
 subst hn;have g:=hid hr;have o:=hid d;clear hr d;go_enter func136,ntmps136;go_wp2_with fail
 go_loop [3] (λi=>∃k:Nat,k<=l.length/\i=.int .i64 k) (λi=>l.length-(intOf i).toNat)
 case atStart=>exact⟨0,kqy _,rfl⟩
 obtain⟨k,d,rfl⟩:=hrel;by_cases a:k<l.length
 .obtain ⟨b,off,rfl,hb,j⟩:=g.out.at_ a;obtain⟨m,h⟩:=(cQ l).1 o.out l[k] (kqp a);obtain⟨x,f⟩:=xq (l[k]);rw[f] at j m h;have e1:((x:Int)==0)=false:=by rw[kqj];omega
  clear f;go_wp2_with fail
  go_round
  case rel=>exact⟨k+1,by omega,by go_num⟩
  case measure=>simp[intOf];omega
 go_wp2;go_ret;exact⟨rfl,rfl⟩
theorem tL(A:Option Addr)(l:List Nat)(c n:Nat)(w:World)(hn:l.length=n)(hm:n<=2048)(hr:RdW w w.heap.size A l)(ho:∀x∈l,x<18446744073709551616):
 Calls prog 138 #[.slice A n c] w λe w'=>e=.returned (.int .u64 (aR 14695981039346656037 l:Nat))/\Below w.heap.size w w':=by have d:=hid (uJ 14695981039346656037 A l c n w hn hm (by omega) hr ho);clear hr ho;obtain⟨q,b⟩:=xq (aR 14695981039346656037 l);rw[b] at d |-;clear b;go_enter func138,ntmps138;go_wp2_with fail;refine d.out.mono ?_;rintro e w1 ⟨rfl,a⟩;go_wp2;go_ret;exact⟨rfl,a⟩
theorem vP(A:Option Addr)(l:List Nat)(c n H:Nat)(w:World)(hn:l.length=n)(h8:n<=8)(hk:eV l=true)(hr:RdY w H A l)(hH:H<=w.heap.size):
 Calls prog 89 #[.slice A n c] w λe w'=>e=.returned (.tuple #[A8 (iN l) (iX (iN l)),.int .i64 0])/\Below w.heap.size w w':=by
 have d:RdY (w.alloc (.cells #[.int .u64 0,.int .u64 0] 157)) H A l:=Rd.alloc hr hH _;have F:=hid (we A l c n H (w.alloc (.cells #[.int .u64 0,.int .u64 0] 157)) hn h8 hk d);have x:=hid (vu A l c n H (w.alloc (.cells #[.int .u64 0,.int .u64 0] 157)) hn h8 hk d);have B:=Bx.new w 157 #[.int .u64 0,.int .u64 0];have o:=yN (by omega) hk;have f:Hid (aR 14695981039346656037 [iN l]=iX (iN l)):=hid rfl;obtain⟨q,C⟩:=xq (iN l);rw[C] at x o f |-;have E:Hid (A8 q (iX q)=.agg #[.int .u64 (q:Int),.int .u64 (iX q:Nat)]):=hid rfl;have k:(prog.info? 157).map (·.size)=some 2:=by kernel_rfl
 have I:=hid B;clear hr d hk C B hn;go_enter func89,ntmps89;go_wp2_with fail;refine F.out.mono ?_;rintro e s ⟨rfl,rfl⟩;go_wp2_with fail;refine x.out.mono ?_;rintro e s ⟨rfl,rfl⟩;go_wp2_with fail;refine x.out.mono ?_;rintro e s ⟨rfl,rfl⟩;go_wp2_with fail;have b:=mY (w.alloc (.cells #[.int .u64 0,.int .u64 0] 157)) [.int .u64 (q:Int)] 53;refine (tL _ [q] _ 1 _ rfl (by omega) (by simp only[kqm] at b |-;exact b) (by intro y D;simp at D;subst D;omega)).mono ?_;rintro e s ⟨rfl,a⟩;rw[kqm,kqm] at a;have j:=(((kqk _ _).alloc (kqa _) (.cells #[.int .u64 0,.int .u64 0] 157)).alloc (by simp) (.cells #[.int .u64 (q:Int)] 53)).trans (a.mono (by omega));have h:=(I.out.alloc (.cells #[.int .u64 (q:Int)] 53)).up a (by omega);have p:=hid h;have r:=hid j;rw[f.out];obtain⟨z,m⟩:=xq (iX q);have G:=hid m;rw[m] at E |-;clear m h j a b;go_wp2_with ((with_reducible refine aq 157 (.tmp 2) _ ?_);refine ai rfl _ _ _ rfl w.heap.size 157 #[.int .u64 0,.int .u64 0] #[.int .u64 (q:Int),.int .u64 (z:Int)] (by rfl) (by rfl) p.out rfl k (by simp[Value.oneCell']) ?_;intro w3 i g;have t:=hid i;have u:=hid g;clear i g);exact kqr (v:=.tuple #[.agg #[.int .u64 (q:Int),.int .u64 (z:Int)],.int .i64 0]) (kj results89 _ t.out rfl rfl) rfl ⟨by rw[G.out,E.out],u.out.below r.out (kqa _)⟩
def GJ (w:List Nat) (i:Nat) (t:List Nat):List Nat:=(w.set (96+2*i) (iN t)).set (96+2*i+1) (iX (iN t))
def kL (ts:List (List Nat)) (w:List Nat):Nat->List Nat
 | 0=>w
 | k+1=>GJ (kL ts w k) k (ts[k]?.getD [])
def FH (w:List Nat) (a:Nat) (b:Bk):List Nat:=(w.set a (da b)).set (a+1) b.next
def fH (bs:List Bk) (s:List Nat × Nat):Nat->List Nat × Nat
 | 0=>s
 | k+1=>(FH (fH bs s k).1 (fH bs s k).2 (gk bs k),(fH bs s k).2+(gk bs k).size.toNat)
def eh (n:Nat):Bk:=⟨0,(n:Int),2,0,false,0⟩
def vp (n:Nat) (s:List Nat × Nat):List Nat:=if s.2<n then s.1.set s.2 (da (eh (n-s.2))) else s.1
def gA (ss:List Int) (w:List Nat):Nat->List Nat
 | 0=>w
 | k+1=>if 0<ss[k]?.getD 0 then (gA ss w k).set (112+k) (9223372041149743104+(ss[k]?.getD 0).toNat) else gA ss w k
def Bj (n:Nat) (ts:List (List Nat)) (bs:List Bk):List Nat × Nat:=fH bs (kL ts (List.replicate n 0) ts.length,128) bs.length
def mL (n:Nat) (ts:List (List Nat)) (bs:List Bk) (ss:List Int):List Nat:=gA ss (vp n (Bj n ts bs)) ss.length
theorem ou(n:Nat):(List.replicate n 0).flatMap aa=List.replicate n (.int .u64 0):=by
 induction n with
 | zero=>rfl
 | succ n ih=>rw[kjl,kzp,ih,kjl];rfl
theorem qC(K T S:Nat)(m:Bool)(a:Int)(x:Nat):da ⟨a,(S:Int),(K:Int),(T:Int),m,x⟩=K+qd m*256+T*512+S*65536+iX (K+qd m*256+T*512+S*65536)%4294967296*4294967296:=by unfold da kV;simp only[kqi]
structure Ty where
 A:Option Addr
 c:Nat
 l:List Nat
 deriving Inhabited
def Ty.cells (x:Ty):List Value:=[.slice x.A x.l.length x.c]
theorem Ty.len(x:Ty):x.cells.length=1:=rfl
def RdT (w:World) (B:Nat) (A:Option Addr) (ts:List Ty):Prop:=Rd w B A (ts.flatMap Ty.cells)/\∀x∈ts,RdY w B x.A x.l/\x.l.length<=8/\eV x.l=true
theorem RdT.at_{l:List Ty}(h:RdT w B A l)(hk:k<l.length):
 ∃b a,A=some ⟨b,a,none⟩/\b<B/\w.cell? ⟨b,a+k,none⟩=some (.slice l[k].A l[k].l.length l[k].c)/\RdY w B l[k].A l[k].l/\l[k].l.length<=8/\eV l[k].l=true:=by obtain⟨b,a,e,i,j⟩:=Rd.at_flat Ty.len h.1 (by omega) hk;have:=j 0 (by omega);simp only[kxh,kz8] at this;obtain⟨f,d,g⟩:=h.2 l[k] (kqp hk);exact⟨b,a,e,i,this,f,d,g⟩
theorem RdT.below{w':World}{l:List Ty}(h:RdT w B A l)(hb:Below B w w'):RdT w' B A l:=⟨h.1.below hb,λx a=>⟨(h.2 x a).1.below hb,(h.2 x a).2⟩⟩
theorem RdT.more{B':Nat}{l:List Ty}(h:RdT w B A l)(hB:B<=B'):RdT w B' A l:=⟨h.1.more hB,λx a=>⟨(h.2 x a).1.more hB,(h.2 x a).2⟩⟩
theorem RdT.nil_ :RdT w B none []:=⟨Rd.nil_,λx h=>by cases h⟩
def nF (H n:Nat) (w wr:World) (cur:List Nat):Prop:=wr.ownsRow H 53 1 (.slice (some ⟨H,0,none⟩) n n) n (cur.flatMap aa)/\Below H w wr
theorem nF.len(h:nF H n w wr cur):cur.length=n:=by have:=h.1.1;rw[fW] at this;omega
theorem nF.set_(h:nF H n w wr cur)(j v:Nat):nF H n w (wr.setCell ⟨H,j,none⟩ (.int .u64 (v:Int))) (cur.set j v):=by refine⟨?_,h.2.setCell (p:=⟨H,j,none⟩) (kqa _) _⟩;rw[li];exact (h.1.stored j (.int .u64 (v:Int))).1
theorem nF.alloc(h:nF H n w wr cur)(o:Obj):nF H n w (wr.alloc o) cur:=⟨h.1.alloc o,h.2.alloc (kxr (h.1.lt H rfl).2) o⟩
theorem nF.drew(h:nF H n w wr cur):nF H n w wr.drew cur:=⟨h.1,h.2.drew⟩
theorem nF.up{w1:World}(h:nF H n w wr cur)(hb:Below wr.heap.size wr w1):nF H n w w1 cur:=⟨ak h.1 hb (kqa _),h.2.trans (hb.mono (kxr (h.1.lt H rfl).2))⟩
theorem nF.cell(h:nF H n w wr cur){j:Nat}(hj:j<n):∃u,wr.cell? ⟨H,j,none⟩=some u/\wr.frozen? ⟨H,j,none⟩=false:=
 ⟨_,(h.1.cellAt j (by omega)).trans (mD cur j (by rw[h.len];exact hj)),h.1.frozenAt j⟩
theorem zN(v:Nat)(hv:v<4294967296):bits BinOp.or .u64 9223372041149743104 (v:Int)=((9223372041149743104+v:Nat):Int):=by
 have h:=u64_or_nat 9223372041149743104 v (by omega) (by omega);have e:9223372041149743104 ||| v=9223372041149743104+v:=by rw[Nat.or_comm,show (9223372041149743104:Nat)=2147483649*2 ^ 32 by decide,j9 (i:=32) (by omega),kj1]
 rw[e] at h;exact h
theorem sS(TA BA SA:Option Addr)(ts:List Ty)(bs:List Bk)(ss:List Int)(tc bc sc n H:Nat)(w:World)(hn:n<=2048)(h128:128<=n)(hT:RdT w H TA ts)(ht8:ts.length<=8)(hB0:RdB w H BA bs)(hS:RdI w H SA ss)(hs16:ss.length<=16)(hH:H<=w.heap.size)(hb2:bs.length<=2048)(hbs:∀k,k<bs.length->(0<=(gk bs k).kind/\(gk bs k).kind<256)/\(0<=(gk bs k).typ/\(gk bs k).typ<128)/\(2<=(gk bs k).size/\(gk bs k).size<65536)/\(fH bs (kL (ts.map Ty.l) (List.replicate n 0) ts.length,128) k).2+(gk bs k).size.toNat<=n)(hss:∀k,k<ss.length->ss[k]?.getD 0<4294967296 /\ -4294967296<ss[k]?.getD 0):
 Calls prog 47 #[.int .i64 (n:Int),.slice TA ts.length tc,.slice BA bs.length bc,.slice SA ss.length sc] w λe w'=>rM w (mL n (ts.map Ty.l) bs ss) e w':=by
 have HT:=hid (hT.more hH);have Jr:=hid (hB0.more hH);have HS:=hid (hS.more hH);have Ja:=hid hbs;have Jh:=hid hss;clear hT hB0 hS hH hbs hss;obtain⟨i0,hi,Jg,Ji,Je⟩:=kzw jI;obtain⟨W0,Jq,I,Jl⟩:=run_make_full (P:=prog) w w.heap.size 22 53 i0 (.int .u64 0) 1 underlying22 hi Jg Ji .i64 .i64 n (by rw[Je];omega) (by unfold maxLen;omega) (kqa _);have Jk:=hid (show nF w.heap.size n w W0 (List.replicate n 0) from ⟨by rw[ou,<-toList_madeCells_one];have:=I;rw[kxh] at this;exact this,(kqk _ _).grown Jl (kqa _) (λk hk=>by cases hk)⟩);clear I Jl hi Jg Ji Je;go_enter func47,ntmps47;go_wp2_with fail;clear Jq;go_loopw [10] (λi wr=>∃k:Nat,k<=ts.length/\i=.int .i64 k/\nF w.heap.size n w wr (kL (ts.map Ty.l) (List.replicate n 0) k)) (λi _=>ts.length-(intOf i).toNat)
 case atStart=>exact⟨0,kqy _,rfl,Jk.out⟩
 obtain⟨k,hk,rfl,f⟩:=hrel;by_cases m:k<ts.length
 .obtain ⟨b,o,rfl,hb,h0,U,Ju,Jo⟩:=RdT.at_ (HT.out.below f.2) m;have d:Hid (kL (ts.map Ty.l) (List.replicate n 0) (k+1)=GJ (kL (ts.map Ty.l) (List.replicate n 0) k) k ts[k].l):=hid (by simp[kL,m]);have HC:=hid (vP ts[k].A ts[k].l ts[k].c ts[k].l.length w.heap.size wr rfl Ju Jo U f.2.size);obtain⟨x,L⟩:=xq (ts[k]);rw[L] at h0 d HC;obtain⟨xA,xc,xl⟩:=x;dsimp only at h0 d HC;obtain⟨p,hp⟩:=xq (iN xl);obtain⟨q,hq⟩:=xq (iX p);unfold GJ at d;unfold A8 at HC;rw[hp,hq] at HC d;have HO:=hid f;have Jc:(k:Int)<(ts.length:Int):=by omega
  have Y:(0:Int)<=(k:Int):=by omega
  have w1:IntKind.i64.wrap (2*(k:Int))=2*(k:Int):=kqv _ (by omega);have w2:IntKind.i64.wrap (96+2*(k:Int))=96+2*(k:Int):=kqv _ (by omega);have w3:IntKind.i64.wrap (96+2*(k:Int)+1)=96+2*(k:Int)+1:=kqv _ (by omega);have i1:(0:Int)<=96+2*(k:Int):=by omega
  have i2:(96:Int)+2*(k:Int)<(n:Int):=by omega
  have i3:(0:Int)<=96+2*(k:Int)+1:=by omega
  have i4:(96:Int)+2*(k:Int)+1<(n:Int):=by omega
  have n1:((96:Int)+2*(k:Int)).toNat=96+2*k:=by omega
  have n2:((96:Int)+2*(k:Int)+1).toNat=96+2*k+1:=by omega
  clear L hp hq f U Jo;go_wp2_with fail;refine HC.out.mono ?_;rintro e M ⟨rfl,Jd⟩;have G:=(HO.out.up Jd).alloc (.cells #[.int .u64 (p:Int),.int .u64 (q:Int)] 157);have bx:=Bx.new M 157 #[.int .u64 (p:Int),.int .u64 (q:Int)];go_wp2_with fail;obtain⟨W,hW⟩:∃W,M.alloc (.cells #[.int .u64 (p:Int),.int .u64 (q:Int)] 157)=W:=⟨_,rfl⟩;rw[hW] at G bx |-;obtain⟨x0,x1,-,-,hgg⟩:=bx.c2;obtain⟨u0,c0,f0⟩:=G.cell (j:=96+2*k) (by omega);obtain⟨u1,c1,f1⟩:=G.cell (j:=96+2*k+1) (by omega);have hne:w.heap.size≠M.heap.size:=by have:=HO.out.2.size;have:=Jd.size;have:=HO.out.1.lt w.heap.size rfl;omega
  have N:=hid G;clear hW G bx Jd
  first
   | (go_region_held3 (λX:World=>X.cell? ⟨M.heap.size,0,none⟩=some (.int .u64 (p:Int))/\X.cell? ⟨M.heap.size,1,none⟩=some (.int .u64 (q:Int))) (go_keep) (fail))
   | fail
  all_goals
   go_wp2;go_roundw
   case rel=>exact⟨k+1,by omega,by go_num,by rw[d.out];exact ((N.out.drew).set_ _ _).set_ _ _⟩
   case measure=>simp[intOf];omega
 obtain rfl:k=ts.length:=by omega
 obtain⟨F,Jb⟩:=xq (kL (ts.map Ty.l) (List.replicate n 0) ts.length);have Jv:=hid Jb;rw[Jb] at f Ja;have HO:=hid f;obtain⟨wa,rfl⟩:∃wa:World,wa=wr:=⟨_,rfl⟩;clear Jb f Jk;go_wp2_with fail;go_loopw [13,14] (λp i wr=>∃k:Nat,k<=bs.length/\i=.int .i64 k/\p=.int .i64 ((fH bs (F,128) k).2:Nat)/\nF w.heap.size n w wr (fH bs (F,128) k).1) (λ_ i _=>bs.length-(intOf i).toNat)
 case atStart=>exact⟨0,kqy _,rfl,rfl,HO.out⟩
 obtain⟨k,hk,rfl,rfl,f⟩:=hrel;have d:Hid (fH bs (F,128) (k+1)=(FH (fH bs (F,128) k).1 (fH bs (F,128) k).2 (gk bs k),(fH bs (F,128) k).2+(gk bs k).size.toNat)):=hid rfl;by_cases m:k<bs.length
 .obtain ⟨b,o,rfl,hb,Z,q1,q2,q3,q4,q5⟩:=RdB.at_ (Rd.below Jr.out f.2) m;obtain⟨⟨e1,e2⟩,⟨e3,e4⟩,⟨e5,e6⟩,e7⟩:=Ja.out k m;rw[<-bM bs k m] at Z q1 q2 q3 q4 q5;obtain⟨x,L⟩:=xq (gk bs k);obtain⟨s1,E⟩:=xq (fH bs (F,128) k);rw[L] at Z q1 q2 q3 q4 q5 d e1 e2 e3 e4 e5 e6 e7;rw[E] at d f e7 |-;obtain⟨xa,xs,xk,xt,xm,xn⟩:=x;obtain⟨r,a⟩:=s1;dsimp only at Z q1 q2 q3 q4 q5 e1 e2 e3 e4 e5 e6 e7 f d |-;obtain⟨K,rfl⟩:=kqz e1;obtain⟨T,rfl⟩:=kqz e3;obtain⟨S,rfl⟩:=kqz (show 0<=xs by omega);simp only[kqi] at e7 d;unfold FH at d;rw[qC] at d;have C:=hid (λW=>qx K T S xm W (by omega) (by omega) (by omega));obtain⟨h,hh⟩:=xq (K+qd xm*256+T*512+S*65536+iX (K+qd xm*256+T*512+S*65536)%4294967296*4294967296);rw[hh] at d C;have N:=hid f;have Jc:(k:Int)<(bs.length:Int):=by omega
  have Y:(0:Int)<=(k:Int):=by omega
  have Js:(0:Int)<=(a:Int):=by omega
  have Jt:(a:Int)<(n:Int):=by omega
  have ha2:(a:Int)+1<(n:Int):=by omega
  have ha3:(0:Int)<=(a:Int)+1:=by omega
  have hwr:IntKind.i64.wrap ((a:Int)+1)=(a:Int)+1:=kqv _ (by omega);have htn:((a:Int)+1).toNat=a+1:=by omega
  have hle:(a:Int)+(S:Int)<=(n:Int):=by omega
  have hS0:(0:Int)<=(S:Int):=by omega
  have hbh:b<w.heap.size:=hb;have Q:b<wr.heap.size:=by have:=f.2.size;omega
  have hbn:b≠w.heap.size:=by omega
  have hbn2:w.heap.size≠b:=by omega
  clear L E hh f e1 e2 e3 e4 e5 e6;go_wp2_with fail
  first
   | (go_region_held3 (λX:World=>X.cell? ⟨b,o+k*6+1,none⟩=some (.int .i64 (S:Int))/\X.cell? ⟨b,o+k*6+2,none⟩=some (.int .i64 (K:Int))/\X.cell? ⟨b,o+k*6+3,none⟩=some (.int .i64 (T:Int))/\X.cell? ⟨b,o+k*6+4,none⟩=some (.bool xm)/\X.cell? ⟨b,o+k*6+5,none⟩=some (.int .u64 (xn:Int))) (go_keep)
    (first | (go_at_call 90;refine (C.out _).mono ?_;rintro e w5 ⟨rfl,s⟩;have m1:=(s.cell (p:=⟨b,o+k*6+1,none⟩) Q).trans q1;have m2:=(s.cell (p:=⟨b,o+k*6+2,none⟩) Q).trans q2;have m3:=(s.cell (p:=⟨b,o+k*6+3,none⟩) Q).trans q3;have m4:=(s.cell (p:=⟨b,o+k*6+4,none⟩) Q).trans q4;have m5:=(s.cell (p:=⟨b,o+k*6+5,none⟩) Q).trans q5;have t:=N.out.drew.up s;obtain⟨u0,c0,f0⟩:=t.cell (j:=a) (by omega);obtain⟨u1,c1,f1⟩:=t.cell (j:=a+1) (by omega);have Jz:=hid t;clear s t)))
   | fail
  all_goals
   go_wp2;go_roundw
   case rel=>exact⟨k+1,by omega,by go_num,by rw[d.out];simp,by rw[d.out];exact ((Jz.out).set_ _ _).set_ _ _⟩
   case measure=>simp[intOf];omega
 obtain rfl:k=bs.length:=by omega
 clear d Ja;have Jy:Hid (Bj n (ts.map Ty.l) bs=fH bs (F,128) bs.length):=hid (by unfold Bj;rw[<-Jv.out,kz2]);have D:Hid (mL n (ts.map Ty.l) bs ss=gA ss (vp n (fH bs (F,128) bs.length)) ss.length):=hid (by unfold mL;rw[Jy.out]);obtain⟨s1,E⟩:=xq (fH bs (F,128) bs.length);rw[E] at f D |-;obtain⟨r,a⟩:=s1;dsimp only at f |-;obtain⟨wa,rfl⟩:∃wa:World,wa=wr:=⟨_,rfl⟩;have Js:(0:Int)<=(a:Int):=by omega
 by_cases Jp:a<n
 .have z:Hid (vp n (r,a)=r.set a (da (eh (n-a)))):=hid (by unfold vp;rw[if_pos Jp]);rw[z.out] at D;have Jj:da (eh (n-a))=2+qd false*256+0*512+(n-a)*65536+iX (2+qd false*256+0*512+(n-a)*65536)%4294967296*4294967296:=qC 2 0 (n-a) false 0 0;have C:=hid (λW=>qx 2 0 (n-a) false W (by omega) (by omega) (by omega));rw[<-Jj] at C;obtain⟨h,hh⟩:=xq (da (eh (n-a)));rw[hh] at C D;rw[show (((n-a:Nat)):Int)=(n:Int)-(a:Int) by omega] at C;have N:=hid f;have Jt:(a:Int)<(n:Int):=by omega
  clear E Jj hh f z;go_wp2_with fail;refine (C.out _).mono ?_;rintro e w5 ⟨rfl,s⟩;have t:=N.out.up s;obtain⟨u0,c0,f0⟩:=t.cell (j:=a) (by omega);have R:=hid (t.set_ a h);clear s t;go_wp2_with fail;obtain⟨c3,Jm⟩:=xq (r.set a h);rw[Jm] at R D;clear Jm c0 f0;go_loopw [15] (λi wr=>∃k:Nat,k<=ss.length/\i=.int .i64 k/\nF w.heap.size n w wr (gA ss c3 k)) (λi _=>ss.length-(intOf i).toNat)
  case atStart=>exact⟨0,kqy _,rfl,R.out⟩
  obtain⟨k,hk,rfl,f⟩:=hrel;have d:Hid (gA ss c3 (k+1)=if 0<ss[k]?.getD 0 then (gA ss c3 k).set (112+k) (9223372041149743104+(ss[k]?.getD 0).toNat) else gA ss c3 k):=hid rfl;by_cases m:k<ss.length
  .obtain ⟨b,o,rfl,hb,Z⟩:=RdI.at_ (Rd.below HS.out f.2) m;obtain⟨g1,V⟩:=Jh.out k m;have u:ss[k]?.getD 0=ss[k]:=by simp[m]
   rw[u] at d g1 V;obtain⟨x,L⟩:=xq (ss[k]);rw[L] at Z d g1 V;obtain⟨c4,O⟩:=xq (gA ss c3 k);rw[O] at d f;have g:=hid f;obtain⟨u0,c0,f0⟩:=f.cell (j:=112+k) (by omega);have Jc:(k:Int)<(ss.length:Int):=by omega
   have Y:(0:Int)<=(k:Int):=by omega
   have Jf:(k:Int)<16:=by omega
   have i1:(0:Int)<=112+(k:Int):=by omega
   have i2:(112:Int)+(k:Int)<(n:Int):=by omega
   have n1:((112:Int)+(k:Int)).toNat=112+k:=by omega
   clear L u O f;by_cases J:0<x
   .obtain ⟨v,rfl⟩:=kqz (show 0<=x by omega);have B:=zN v (by omega);rw[if_pos J,kqi] at d;obtain⟨y,U⟩:=xq (9223372041149743104+v);rw[U] at B d;have Eq:=hid B;have Jw:IntKind.u64.wrap (v:Int)=(v:Int):=kz0 _ (by omega);clear U B g1 V;go_wp2;go_roundw
    case rel=>exact⟨k+1,by omega,by go_num,by rw[d.out];have h5:=g.out.set_ (112+k) y;rw[<-Eq.out] at h5;exact h5⟩
    case measure=>simp[intOf];omega
   rw[if_neg J] at d;go_wp2;go_roundw
   case rel=>exact⟨k+1,by omega,by go_num,by rw[d.out];exact g.out⟩
   case measure=>simp[intOf];omega
  obtain rfl:k=ss.length:=by omega
  have g:=hid f;clear f d;go_wp2;go_ret;rw[<-D.out] at g;have hl:=g.out.len;exact⟨w.heap.size,n,by rw[hl];rfl,by rw[hl];exact g.out.1,g.out.2⟩
 have z:Hid (vp n (r,a)=r):=hid (by unfold vp;rw[if_neg Jp]);rw[z.out] at D;have R:=hid f;clear E f z;go_wp2_with fail;go_loopw [15] (λi wr=>∃k:Nat,k<=ss.length/\i=.int .i64 k/\nF w.heap.size n w wr (gA ss r k)) (λi _=>ss.length-(intOf i).toNat)
 case atStart=>exact⟨0,kqy _,rfl,R.out⟩
 obtain⟨k,hk,rfl,f⟩:=hrel;have d:Hid (gA ss r (k+1)=if 0<ss[k]?.getD 0 then (gA ss r k).set (112+k) (9223372041149743104+(ss[k]?.getD 0).toNat) else gA ss r k):=hid rfl;by_cases m:k<ss.length
 .obtain ⟨b,o,rfl,hb,Z⟩:=RdI.at_ (Rd.below HS.out f.2) m;obtain⟨g1,V⟩:=Jh.out k m;have u:ss[k]?.getD 0=ss[k]:=by simp[m]
  rw[u] at d g1 V;obtain⟨x,L⟩:=xq (ss[k]);rw[L] at Z d g1 V;obtain⟨c4,O⟩:=xq (gA ss r k);rw[O] at d f;have g:=hid f;obtain⟨u0,c0,f0⟩:=f.cell (j:=112+k) (by omega);have Jc:(k:Int)<(ss.length:Int):=by omega
  have Y:(0:Int)<=(k:Int):=by omega
  have Jf:(k:Int)<16:=by omega
  have i1:(0:Int)<=112+(k:Int):=by omega
  have i2:(112:Int)+(k:Int)<(n:Int):=by omega
  have n1:((112:Int)+(k:Int)).toNat=112+k:=by omega
  clear L u O f;by_cases J:0<x
  .obtain ⟨v,rfl⟩:=kqz (show 0<=x by omega);have B:=zN v (by omega);rw[if_pos J,kqi] at d;obtain⟨y,U⟩:=xq (9223372041149743104+v);rw[U] at B d;have Eq:=hid B;have Jw:IntKind.u64.wrap (v:Int)=(v:Int):=kz0 _ (by omega);clear U B g1 V;go_wp2;go_roundw
   case rel=>exact⟨k+1,by omega,by go_num,by rw[d.out];have h5:=g.out.set_ (112+k) y;rw[<-Eq.out] at h5;exact h5⟩
   case measure=>simp[intOf];omega
  rw[if_neg J] at d;go_wp2;go_roundw
  case rel=>exact⟨k+1,by omega,by go_num,by rw[d.out];exact g.out⟩
  case measure=>simp[intOf];omega
 obtain rfl:k=ss.length:=by omega
 have g:=hid f;clear f d;go_wp2;go_ret;rw[<-D.out] at g;have hl:=g.out.len;exact⟨w.heap.size,n,by rw[hl];rfl,by rw[hl];exact g.out.1,g.out.2⟩
theorem Rd.of_bx{g:Nat}{t:TypeId}{cs:Array Value}(h:Bx w g t cs)(hg:g<B):Rd w B (some ⟨g,0,none⟩) cs.toList:=λ_ =>
 ⟨g,0,rfl,hg,λj hj=>by
  rw[kxd,h.cell j]
  simp⟩
def obj4 (m:Bool):Bk:=⟨0,4,1,0,m,0⟩
def fits (n:Nat) (ts:List (List Nat)) (bs:List Bk) (k:Nat):Prop:=(0<=(gk bs k).kind/\(gk bs k).kind<256)/\(0<=(gk bs k).typ/\(gk bs k).typ<128)/\(2<=(gk bs k).size/\(gk bs k).size<65536)/\(fH bs (kL ts (List.replicate n 0) ts.length,128) k).2+(gk bs k).size.toNat<=n
instance (n:Nat) (ts:List (List Nat)) (bs:List Bk) (k:Nat):Decidable (fits n ts bs k):=by unfold fits;infer_instance
end Go.Proofs.YtpcajamacpbjcaaGreat
