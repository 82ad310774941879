/- Texts laid together: Ref13 Bld Pair. -/
import Derived.Test.YtpcajamacpbjcaaGreatZKHeap
import Derived.Test.YtpcajamacpbjcaaGreatZKRefs
import Derived.Test.YtpcajamacpbjcaaGreatZKHead
import Derived.Test.YtpcajamacpbjcaaGreatZKMove
set_option maxHeartbeats 16000000
set_option maxRecDepth 100000
set_option linter.all false
namespace Go.Proofs.YtpcajamacpbjcaaGreat
open Lib (hid)
open Go.RowKit
variable {cur l:List Nat}{B H k n:Nat}{A:Option Addr}{w wr:World}
open Go.Proofs.Tryz
def fN:List Nat->Nat
 | []=>0
 | k::l=>fN l*4+k
theorem JV(l:List Nat):∀j,nc l j=4 ^ j*fN l:=by
 induction l with
 | nil=>intro j;rfl
 | cons k l ih=>intro j;simp only[nc,fN,ih];rw[kjm,Nat.mul_add,kje k,kje (fN l) 4,kvj];omega
theorem Jt(l:List Nat):fN l*256+l.length=iG l:=by unfold iG;rw[JV,show (4:Nat) ^ 4=256 by decide];omega
theorem fN_lt(h:eD l=true):fN l<4 ^ l.length:=by
 induction l with
 | nil=>simp[fN]
 | cons k l ih =>rw[cZ] at h;have h1:=ih ((cZ l).2 λx a=>h x (by simp[a]));have h2:=h k (by simp);simp only[fN,kq2,kjm];omega
theorem JD(hk:k<l.length):fN (l.drop k)=fN (l.drop (k+1))*4+l[k]:=by rw[kx3 hk];rfl
theorem pE(h8:l.length<=8)(h:eD l=true)(k:Nat):fN (l.drop k)<65536:=by
 have b:eD (l.drop k)=true:=(cZ _).2 λx a=>(cZ l).1 h x (kxz a);have h2:=fN_lt b;have h3:4 ^ (l.drop k).length<=4 ^ 8:=kjd (by omega) (by rw[kzp];omega);have h4:(4:Nat) ^ 8=65536:=by decide
 omega
theorem zj(A:Option Addr)(l:List Nat)(c n B:Nat)(w:World)(hn:l.length=n)(h8:n<=8)(o:eD l=true)(hr:RdY w B A l):
 Calls prog 137 #[.slice A n c] w λe w'=>e=.returned (.int .u64 (iG l:Nat))/\w=w':=by
 subst hn;have u:=hid hr;have t:=hid (Jt l);have m:=hid o;clear hr o;go_enter func137,ntmps137;go_wp2_with fail
 go_loop [3,4] (λs i=>∃k:Nat,k<=l.length/\i=.int .i64 ((k:Int)-1)/\s=.int .u64 (fN (l.drop k):Nat)) (λ_ i=>(intOf i+1).toNat)
 case atStart=>exact⟨l.length,kqa _,rfl,by rw[kkf];rfl⟩
 obtain⟨k,o,rfl,rfl⟩:=hrel;cases k with
 | zero =>
  have a:=pE h8 m.out 0;rw[List.drop_zero] at a |-;obtain⟨q,f⟩:=xq (fN l);rw[f] at a t |-;have j:(0:Int)<=(q:Int):=by omega
  have h:(q:Int)<65536:=by omega
  clear f;go_wp2;go_ret;exact⟨by rw[<-t.out];try simp,rfl⟩
 | succ k =>
  rw[show (((k+1:Nat):Int)-1)=(k:Int) by omega];have a:k<l.length:=by omega
  obtain⟨b,off,rfl,hb,v⟩:=u.out.at_ a;have f:=pE h8 m.out (k+1);have g:=hid (JD a);have p:=((cZ l).1 m.out l[k] (kqn a)).2;obtain⟨x,r⟩:=xq (l[k]);obtain⟨q,d⟩:=xq (fN (l.drop (k+1)));rw[r] at v g p;rw[d] at f g |-;have j:(0:Int)<=(q:Int):=by omega
  have h:(q:Int)<65536:=by omega
  have hx0:(0:Int)<=(x:Int):=by omega
  have hx1:(x:Int)<=3:=by omega
  have hk0:(0:Int)<=(k:Int):=by omega
  have hkl:(k:Int)<(l.length:Int):=by omega
  clear r d;go_wp2_with fail
  go_round
  case rel=>exact⟨k,by omega,rfl,by rw[g.out];simp⟩
  case measure=>simp[intOf]<;>omega
theorem qg(A:Option Addr)(l:List Nat)(c n B:Nat)(w:World)(hn:l.length=n)(h8:n<=8)(d:eD l=true)(hr:RdY w B A l):
 Calls prog 136 #[.slice A n c] w λe w'=>e=.returned (.int .i64 0)/\w=w':=by
 subst hn;have h:=hid hr;have j:=hid d;clear hr d;go_enter func136,ntmps136;go_wp2_with fail
 go_loop [3] (λi=>∃k:Nat,k<=l.length/\i=.int .i64 k) (λi=>l.length-(intOf i).toNat)
 case atStart=>exact⟨0,kqz _,rfl⟩
 obtain⟨k,d,rfl⟩:=hrel;by_cases a:k<l.length
 .obtain ⟨b,off,rfl,hb,m⟩:=h.out.at_ a;obtain⟨o,g⟩:=(cZ l).1 j.out l[k] (kqn a);obtain⟨x,f⟩:=xq (l[k]);rw[f] at m o g;have e1:((x:Int)==0)=false:=by rw[kqi];omega
  clear f;go_wp2_with fail
  go_round
  case rel=>exact⟨k+1,by omega,by go_num⟩
  case measure=>simp[intOf];omega
 go_wp2;go_ret;exact⟨rfl,rfl⟩
theorem rC(A:Option Addr)(l:List Nat)(c n:Nat)(w:World)(hn:l.length=n)(hm:n<=2048)(hr:RdW w w.heap.size A l)(ho:∀x∈l,x<18446744073709551616):
 Calls prog 138 #[.slice A n c] w λe w'=>e=.returned (.int .u64 (a8 14695981039346656037 l:Nat))/\Below w.heap.size w w':=by have b:=hid (vw 14695981039346656037 A l c n w hn hm (by omega) hr ho);clear hr ho;obtain⟨q,d⟩:=xq (a8 14695981039346656037 l);rw[d] at b |-;clear d;go_enter func138,ntmps138;go_wp2_with fail;refine b.out.mono ?_;rintro e w1 ⟨rfl,a⟩;go_wp2;go_ret;exact⟨rfl,a⟩
theorem xH(A:Option Addr)(l:List Nat)(c n H:Nat)(w:World)(hn:l.length=n)(h8:n<=8)(hk:eD l=true)(hr:RdY w H A l)(hH:H<=w.heap.size):
 Calls prog 89 #[.slice A n c] w λe w'=>e=.returned (.tuple #[Bn (iG l) (iz (iG l)),.int .i64 0])/\Below w.heap.size w w':=by
 have d:RdY (w.alloc (.cells #[.int .u64 0,.int .u64 0] 157)) H A l:=Rd.alloc hr hH _;have G:=hid (qg A l c n H (w.alloc (.cells #[.int .u64 0,.int .u64 0] 157)) hn h8 hk d);have r:=hid (zj A l c n H (w.alloc (.cells #[.int .u64 0,.int .u64 0] 157)) hn h8 hk d);have B:=Bx.new w 157 #[.int .u64 0,.int .u64 0];have u:=zW (by omega) hk;have j:Hid (a8 14695981039346656037 [iG l]=iz (iG l)):=hid rfl;obtain⟨q,D⟩:=xq (iG l);rw[D] at r u j |-;have C:Hid (Bn q (iz q)=.agg #[.int .u64 (q:Int),.int .u64 (iz q:Nat)]):=hid rfl;have o:(prog.info? 157).map (·.size)=some 2:=by kernel_rfl
 have I:=hid B;clear hr d hk D B hn;go_enter func89,ntmps89;go_wp2_with fail;refine G.out.mono ?_;rintro e m ⟨rfl,rfl⟩;go_wp2_with fail;refine r.out.mono ?_;rintro e m ⟨rfl,rfl⟩;go_wp2_with fail;refine r.out.mono ?_;rintro e m ⟨rfl,rfl⟩;go_wp2_with fail;have b:=od (w.alloc (.cells #[.int .u64 0,.int .u64 0] 157)) [.int .u64 (q:Int)] 53;refine (rC _ [q] _ 1 _ rfl (by omega) (by simp only[kqm] at b |-;exact b) (by intro y E;simp at E;subst E;omega)).mono ?_;rintro e m ⟨rfl,a⟩;rw[kqm,kqm] at a;have g:=(((kqk _ _).alloc (kqa _) (.cells #[.int .u64 0,.int .u64 0] 157)).alloc (by simp) (.cells #[.int .u64 (q:Int)] 53)).trans (a.mono (by omega));have f:=(I.out.alloc (.cells #[.int .u64 (q:Int)] 53)).up a (by omega);have t:=hid f;have s:=hid g;rw[j.out];obtain⟨z,k⟩:=xq (iz q);have F:=hid k;rw[k] at C |-;clear k f g a b;go_wp2_with ((with_reducible refine ar 157 (.tmp 2) _ ?_);refine ao rfl _ _ _ rfl w.heap.size 157 #[.int .u64 0,.int .u64 0] #[.int .u64 (q:Int),.int .u64 (z:Int)] (by rfl) (by rfl) t.out rfl o (by simp[Value.oneCell']) ?_;intro w3 h i;have x:=hid h;have p:=hid i;clear h i);exact kqq (v:=.tuple #[.agg #[.int .u64 (q:Int),.int .u64 (z:Int)],.int .i64 0]) (kN results89 _ x.out rfl rfl) rfl ⟨by rw[F.out,C.out],p.out.below s.out (kqa _)⟩
def Im (w:List Nat) (i:Nat) (t:List Nat):List Nat:=(w.set (96+2*i) (iG t)).set (96+2*i+1) (iz (iG t))
def kW (ts:List (List Nat)) (w:List Nat):Nat->List Nat
 | 0=>w
 | k+1=>Im (kW ts w k) k (ts[k]?.getD [])
def JB (w:List Nat) (a:Nat) (b:Bk):List Nat:=(w.set a (cS b)).set (a+1) b.next
def gh (bs:List Bk) (s:List Nat × Nat):Nat->List Nat × Nat
 | 0=>s
 | k+1=>(JB (gh bs s k).1 (gh bs s k).2 (gk bs k),(gh bs s k).2+(gk bs k).size.toNat)
def du (n:Nat):Bk:=⟨0,(n:Int),2,0,false,0⟩
def xN (n:Nat) (s:List Nat × Nat):List Nat:=if s.2<n then s.1.set s.2 (cS (du (n-s.2))) else s.1
def ip (ss:List Int) (w:List Nat):Nat->List Nat
 | 0=>w
 | k+1=>if 0<ss[k]?.getD 0 then (ip ss w k).set (112+k) (9223372041149743104+(ss[k]?.getD 0).toNat) else ip ss w k
def At (n:Nat) (ts:List (List Nat)) (bs:List Bk):List Nat × Nat:=gh bs (kW ts (List.replicate n 0) ts.length,128) bs.length
def sh (n:Nat) (ts:List (List Nat)) (bs:List Bk) (ss:List Int):List Nat:=ip ss (xN n (At n ts bs)) ss.length
theorem xX(n:Nat):(List.replicate n 0).flatMap ae=List.replicate n (.int .u64 0):=by
 induction n with
 | zero=>rfl
 | succ n ih=>rw[kj1,kzy,ih,kj1];rfl
theorem sV(K T S:Nat)(m:Bool)(a:Int)(x:Nat):cS ⟨a,(S:Int),(K:Int),(T:Int),m,x⟩=K+pa m*256+T*512+S*65536+iz (K+pa m*256+T*512+S*65536)%4294967296*4294967296:=by unfold cS lS;simp only[kqj]
structure Ty where
 A:Option Addr
 c:Nat
 l:List Nat
 deriving Inhabited
def Ty.cells (x:Ty):List Value:=[.slice x.A x.l.length x.c]
theorem Ty.len(x:Ty):x.cells.length=1:=rfl
def RdT (w:World) (B:Nat) (A:Option Addr) (ts:List Ty):Prop:=Rd w B A (ts.flatMap Ty.cells)/\∀x∈ts,RdY w B x.A x.l/\x.l.length<=8/\eD x.l=true
theorem RdT.at_{l:List Ty}(h:RdT w B A l)(hk:k<l.length):
 ∃b a,A=some ⟨b,a,none⟩/\b<B/\w.cell? ⟨b,a+k,none⟩=some (.slice l[k].A l[k].l.length l[k].c)/\RdY w B l[k].A l[k].l/\l[k].l.length<=8/\eD l[k].l=true:=by obtain⟨b,a,e,f,d⟩:=Rd.at_flat Ty.len h.1 (by omega) hk;have:=d 0 (by omega);simp only[kxq,kxa] at this;obtain⟨j,i,g⟩:=h.2 l[k] (kqn hk);exact⟨b,a,e,f,this,j,i,g⟩
theorem RdT.below{w':World}{l:List Ty}(h:RdT w B A l)(hb:Below B w w'):RdT w' B A l:=⟨h.1.below hb,λx a=>⟨(h.2 x a).1.below hb,(h.2 x a).2⟩⟩
theorem RdT.more{B':Nat}{l:List Ty}(h:RdT w B A l)(hB:B<=B'):RdT w B' A l:=⟨h.1.more hB,λx a=>⟨(h.2 x a).1.more hB,(h.2 x a).2⟩⟩
theorem RdT.nil_ :RdT w B none []:=⟨Rd.nil_,λx h=>by cases h⟩
def pp (H n:Nat) (w wr:World) (cur:List Nat):Prop:=wr.ownsRow H 53 1 (.slice (some ⟨H,0,none⟩) n n) n (cur.flatMap ae)/\Below H w wr
theorem pp.len(h:pp H n w wr cur):cur.length=n:=by have:=h.1.1;rw[ki] at this;omega
theorem pp.set_(h:pp H n w wr cur)(j v:Nat):pp H n w (wr.setCell ⟨H,j,none⟩ (.int .u64 (v:Int))) (cur.set j v):=by refine⟨?_,h.2.setCell (p:=⟨H,j,none⟩) (kqa _) _⟩;rw[gC];exact (h.1.stored j (.int .u64 (v:Int))).1
theorem pp.alloc(h:pp H n w wr cur)(o:Obj):pp H n w (wr.alloc o) cur:=⟨h.1.alloc o,h.2.alloc (kjv (h.1.lt H rfl).2) o⟩
theorem pp.drew(h:pp H n w wr cur):pp H n w wr.drew cur:=⟨h.1,h.2.drew⟩
theorem pp.up{w1:World}(h:pp H n w wr cur)(hb:Below wr.heap.size wr w1):pp H n w w1 cur:=⟨aa h.1 hb (kqa _),h.2.trans (hb.mono (kjv (h.1.lt H rfl).2))⟩
theorem pp.cell(h:pp H n w wr cur){j:Nat}(hj:j<n):∃u,wr.cell? ⟨H,j,none⟩=some u/\wr.frozen? ⟨H,j,none⟩=false:=
 ⟨_,(h.1.cellAt j (by omega)).trans (iC cur j (by rw[h.len];exact hj)),h.1.frozenAt j⟩
theorem DR(v:Nat)(hv:v<4294967296):bits BinOp.or .u64 9223372041149743104 (v:Int)=((9223372041149743104+v:Nat):Int):=by
 have h:=u64_or_nat 9223372041149743104 v (by omega) (by omega);have e:9223372041149743104 ||| v=9223372041149743104+v:=by rw[Nat.or_comm,show (9223372041149743104:Nat)=2147483649*2 ^ 32 by decide,kJ (i:=32) (by omega),kjw]
 rw[e] at h;exact h
theorem JK(TA BA SA:Option Addr)(ts:List Ty)(bs:List Bk)(ss:List Int)(tc bc sc n H:Nat)(w:World)(hn:n<=2048)(h128:128<=n)(hT:RdT w H TA ts)(ht8:ts.length<=8)(hB0:RdB w H BA bs)(hS:RdI w H SA ss)(hs16:ss.length<=16)(hH:H<=w.heap.size)(hb2:bs.length<=2048)(hbs:∀k,k<bs.length->(0<=(gk bs k).kind/\(gk bs k).kind<256)/\(0<=(gk bs k).typ/\(gk bs k).typ<128)/\(2<=(gk bs k).size/\(gk bs k).size<65536)/\(gh bs (kW (ts.map Ty.l) (List.replicate n 0) ts.length,128) k).2+(gk bs k).size.toNat<=n)(hss:∀k,k<ss.length->ss[k]?.getD 0<4294967296 /\ -4294967296<ss[k]?.getD 0):
 Calls prog 47 #[.int .i64 (n:Int),.slice TA ts.length tc,.slice BA bs.length bc,.slice SA ss.length sc] w λe w'=>CM w (sh n (ts.map Ty.l) bs ss) e w':=by
 have HT:=hid (hT.more hH);have Lo:=hid (hB0.more hH);have HS:=hid (hS.more hH);have Z:=hid hbs;have Li:=hid hss;clear hT hB0 hS hH hbs hss;obtain⟨i0,hi,Lb,Lk,Le⟩:=kzr lq;obtain⟨W0,Lt,G,Lc⟩:=run_make_full (P:=prog) w w.heap.size 22 53 i0 (.int .u64 0) 1 underlying22 hi Lb Lk .i64 .i64 n (by rw[Le];omega) (by unfold maxLen;omega) (kqa _);have La:=hid (show pp w.heap.size n w W0 (List.replicate n 0) from ⟨by rw[xX,<-toList_madeCells_one];have:=G;rw[kxq] at this;exact this,(kqk _ _).grown Lc (kqa _) (λk hk=>by cases hk)⟩);clear G Lc hi Lb Lk Le;go_enter func47,ntmps47;go_wp2_with fail;clear Lt;go_loopw [10] (λi wr=>∃k:Nat,k<=ts.length/\i=.int .i64 k/\pp w.heap.size n w wr (kW (ts.map Ty.l) (List.replicate n 0) k)) (λi _=>ts.length-(intOf i).toNat)
 case atStart=>exact⟨0,kqz _,rfl,La.out⟩
 obtain⟨k,hk,rfl,f⟩:=hrel;by_cases m:k<ts.length
 .obtain ⟨b,o,rfl,hb,h0,U,Lq,Lg⟩:=RdT.at_ (HT.out.below f.2) m;have d:Hid (kW (ts.map Ty.l) (List.replicate n 0) (k+1)=Im (kW (ts.map Ty.l) (List.replicate n 0) k) k ts[k].l):=hid (by simp[kW,m]);have HC:=hid (xH ts[k].A ts[k].l ts[k].c ts[k].l.length w.heap.size wr rfl Lq Lg U f.2.size);obtain⟨x,J⟩:=xq (ts[k]);rw[J] at h0 d HC;obtain⟨xA,xc,xl⟩:=x;dsimp only at h0 d HC;obtain⟨p,hp⟩:=xq (iG xl);obtain⟨q,hq⟩:=xq (iz p);unfold Im at d;unfold Bn at HC;rw[hp,hq] at HC d;have HO:=hid f;have Kz:(k:Int)<(ts.length:Int):=by omega
  have Eq:(0:Int)<=(k:Int):=by omega
  have w1:IntKind.i64.wrap (2*(k:Int))=2*(k:Int):=kqt _ (by omega);have w2:IntKind.i64.wrap (96+2*(k:Int))=96+2*(k:Int):=kqt _ (by omega);have w3:IntKind.i64.wrap (96+2*(k:Int)+1)=96+2*(k:Int)+1:=kqt _ (by omega);have i1:(0:Int)<=96+2*(k:Int):=by omega
  have i2:(96:Int)+2*(k:Int)<(n:Int):=by omega
  have i3:(0:Int)<=96+2*(k:Int)+1:=by omega
  have i4:(96:Int)+2*(k:Int)+1<(n:Int):=by omega
  have n1:((96:Int)+2*(k:Int)).toNat=96+2*k:=by omega
  have n2:((96:Int)+2*(k:Int)+1).toNat=96+2*k+1:=by omega
  clear J hp hq f U Lg;go_wp2_with fail;refine HC.out.mono ?_;rintro e I ⟨rfl,Kx⟩;have L:=(HO.out.up Kx).alloc (.cells #[.int .u64 (p:Int),.int .u64 (q:Int)] 157);have bx:=Bx.new I 157 #[.int .u64 (p:Int),.int .u64 (q:Int)];go_wp2_with fail;obtain⟨W,hW⟩:∃W,I.alloc (.cells #[.int .u64 (p:Int),.int .u64 (q:Int)] 157)=W:=⟨_,rfl⟩;rw[hW] at L bx |-;obtain⟨x0,x1,-,-,hgg⟩:=bx.c2;obtain⟨u0,c0,f0⟩:=L.cell (j:=96+2*k) (by omega);obtain⟨u1,c1,f1⟩:=L.cell (j:=96+2*k+1) (by omega);have hne:w.heap.size≠I.heap.size:=by have:=HO.out.2.size;have:=Kx.size;have:=HO.out.1.lt w.heap.size rfl;omega
  have Q:=hid L;clear hW L bx Kx
  first
   | (go_region_held3 (λX:World=>X.cell? ⟨I.heap.size,0,none⟩=some (.int .u64 (p:Int))/\X.cell? ⟨I.heap.size,1,none⟩=some (.int .u64 (q:Int))) (go_keep) (fail))
   | fail
  all_goals
   go_wp2;go_roundw
   case rel=>exact⟨k+1,by omega,by go_num,by rw[d.out];exact ((Q.out.drew).set_ _ _).set_ _ _⟩
   case measure=>simp[intOf];omega
 obtain rfl:k=ts.length:=by omega
 obtain⟨F,Ky⟩:=xq (kW (ts.map Ty.l) (List.replicate n 0) ts.length);have Ll:=hid Ky;rw[Ky] at f Z;have HO:=hid f;obtain⟨wa,rfl⟩:∃wa:World,wa=wr:=⟨_,rfl⟩;clear Ky f La;go_wp2_with fail;go_loopw [13,14] (λp i wr=>∃k:Nat,k<=bs.length/\i=.int .i64 k/\p=.int .i64 ((gh bs (F,128) k).2:Nat)/\pp w.heap.size n w wr (gh bs (F,128) k).1) (λ_ i _=>bs.length-(intOf i).toNat)
 case atStart=>exact⟨0,kqz _,rfl,rfl,HO.out⟩
 obtain⟨k,hk,rfl,rfl,f⟩:=hrel;have d:Hid (gh bs (F,128) (k+1)=(JB (gh bs (F,128) k).1 (gh bs (F,128) k).2 (gk bs k),(gh bs (F,128) k).2+(gk bs k).size.toNat)):=hid rfl;by_cases m:k<bs.length
 .obtain ⟨b,o,rfl,hb,V,q1,q2,q3,q4,q5⟩:=RdB.at_ (Rd.below Lo.out f.2) m;obtain⟨⟨e1,e2⟩,⟨e3,e4⟩,⟨e5,e6⟩,e7⟩:=Z.out k m;rw[<-bU bs k m] at V q1 q2 q3 q4 q5;obtain⟨x,J⟩:=xq (gk bs k);obtain⟨s1,E⟩:=xq (gh bs (F,128) k);rw[J] at V q1 q2 q3 q4 q5 d e1 e2 e3 e4 e5 e6 e7;rw[E] at d f e7 |-;obtain⟨xa,xs,xk,xt,xm,xn⟩:=x;obtain⟨r,a⟩:=s1;dsimp only at V q1 q2 q3 q4 q5 e1 e2 e3 e4 e5 e6 e7 f d |-;obtain⟨K,rfl⟩:=kq1 e1;obtain⟨T,rfl⟩:=kq1 e3;obtain⟨S,rfl⟩:=kq1 (show 0<=xs by omega);simp only[kqj] at e7 d;unfold JB at d;rw[sV] at d;have C:=hid (λW=>oG K T S xm W (by omega) (by omega) (by omega));obtain⟨h,hh⟩:=xq (K+pa xm*256+T*512+S*65536+iz (K+pa xm*256+T*512+S*65536)%4294967296*4294967296);rw[hh] at d C;have Q:=hid f;have Kz:(k:Int)<(bs.length:Int):=by omega
  have Eq:(0:Int)<=(k:Int):=by omega
  have Ln:(0:Int)<=(a:Int):=by omega
  have Lp:(a:Int)<(n:Int):=by omega
  have ha2:(a:Int)+1<(n:Int):=by omega
  have ha3:(0:Int)<=(a:Int)+1:=by omega
  have hwr:IntKind.i64.wrap ((a:Int)+1)=(a:Int)+1:=kqt _ (by omega);have htn:((a:Int)+1).toNat=a+1:=by omega
  have hle:(a:Int)+(S:Int)<=(n:Int):=by omega
  have hS0:(0:Int)<=(S:Int):=by omega
  have hbh:b<w.heap.size:=hb;have O:b<wr.heap.size:=by have:=f.2.size;omega
  have hbn:b≠w.heap.size:=by omega
  have hbn2:w.heap.size≠b:=by omega
  clear J E hh f e1 e2 e3 e4 e5 e6;go_wp2_with fail
  first
   | (go_region_held3 (λX:World=>X.cell? ⟨b,o+k*6+1,none⟩=some (.int .i64 (S:Int))/\X.cell? ⟨b,o+k*6+2,none⟩=some (.int .i64 (K:Int))/\X.cell? ⟨b,o+k*6+3,none⟩=some (.int .i64 (T:Int))/\X.cell? ⟨b,o+k*6+4,none⟩=some (.bool xm)/\X.cell? ⟨b,o+k*6+5,none⟩=some (.int .u64 (xn:Int))) (go_keep)
    (first | (go_at_call 90;refine (C.out _).mono ?_;rintro e w5 ⟨rfl,s⟩;have m1:=(s.cell (p:=⟨b,o+k*6+1,none⟩) O).trans q1;have m2:=(s.cell (p:=⟨b,o+k*6+2,none⟩) O).trans q2;have m3:=(s.cell (p:=⟨b,o+k*6+3,none⟩) O).trans q3;have m4:=(s.cell (p:=⟨b,o+k*6+4,none⟩) O).trans q4;have m5:=(s.cell (p:=⟨b,o+k*6+5,none⟩) O).trans q5;have u:=Q.out.drew.up s;obtain⟨u0,c0,f0⟩:=u.cell (j:=a) (by omega);obtain⟨u1,c1,f1⟩:=u.cell (j:=a+1) (by omega);have Lm:=hid u;clear s u)))
   | fail
  all_goals
   go_wp2;go_roundw
   case rel=>exact⟨k+1,by omega,by go_num,by rw[d.out];simp,by rw[d.out];exact ((Lm.out).set_ _ _).set_ _ _⟩
   case measure=>simp[intOf];omega
 obtain rfl:k=bs.length:=by omega
 clear d Z;have Ls:Hid (At n (ts.map Ty.l) bs=gh bs (F,128) bs.length):=hid (by unfold At;rw[<-Ll.out,kzg]);have D:Hid (sh n (ts.map Ty.l) bs ss=ip ss (xN n (gh bs (F,128) bs.length)) ss.length):=hid (by unfold sh;rw[Ls.out]);obtain⟨s1,E⟩:=xq (gh bs (F,128) bs.length);rw[E] at f D |-;obtain⟨r,a⟩:=s1;dsimp only at f |-;obtain⟨wa,rfl⟩:∃wa:World,wa=wr:=⟨_,rfl⟩;have Ln:(0:Int)<=(a:Int):=by omega
 by_cases Lf:a<n
 .have t:Hid (xN n (r,a)=r.set a (cS (du (n-a)))):=hid (by unfold xN;rw[if_pos Lf]);rw[t.out] at D;have Ld:cS (du (n-a))=2+pa false*256+0*512+(n-a)*65536+iz (2+pa false*256+0*512+(n-a)*65536)%4294967296*4294967296:=sV 2 0 (n-a) false 0 0;have C:=hid (λW=>oG 2 0 (n-a) false W (by omega) (by omega) (by omega));rw[<-Ld] at C;obtain⟨h,hh⟩:=xq (cS (du (n-a)));rw[hh] at C D;rw[show (((n-a:Nat)):Int)=(n:Int)-(a:Int) by omega] at C;have Q:=hid f;have Lp:(a:Int)<(n:Int):=by omega
  clear E Ld hh f t;go_wp2_with fail;refine (C.out _).mono ?_;rintro e w5 ⟨rfl,s⟩;have u:=Q.out.up s;obtain⟨u0,c0,f0⟩:=u.cell (j:=a) (by omega);have R:=hid (u.set_ a h);clear s u;go_wp2_with fail;obtain⟨c3,Lj⟩:=xq (r.set a h);rw[Lj] at R D;clear Lj c0 f0;go_loopw [15] (λi wr=>∃k:Nat,k<=ss.length/\i=.int .i64 k/\pp w.heap.size n w wr (ip ss c3 k)) (λi _=>ss.length-(intOf i).toNat)
  case atStart=>exact⟨0,kqz _,rfl,R.out⟩
  obtain⟨k,hk,rfl,f⟩:=hrel;have d:Hid (ip ss c3 (k+1)=if 0<ss[k]?.getD 0 then (ip ss c3 k).set (112+k) (9223372041149743104+(ss[k]?.getD 0).toNat) else ip ss c3 k):=hid rfl;by_cases m:k<ss.length
  .obtain ⟨b,o,rfl,hb,V⟩:=RdI.at_ (Rd.below HS.out f.2) m;obtain⟨Y,g2⟩:=Li.out k m;have z:ss[k]?.getD 0=ss[k]:=by simp[m]
   rw[z] at d Y g2;obtain⟨x,J⟩:=xq (ss[k]);rw[J] at V d Y g2;obtain⟨c4,M⟩:=xq (ip ss c3 k);rw[M] at d f;have g:=hid f;obtain⟨u0,c0,f0⟩:=f.cell (j:=112+k) (by omega);have Kz:(k:Int)<(ss.length:Int):=by omega
   have Eq:(0:Int)<=(k:Int):=by omega
   have Lh:(k:Int)<16:=by omega
   have i1:(0:Int)<=112+(k:Int):=by omega
   have i2:(112:Int)+(k:Int)<(n:Int):=by omega
   have n1:((112:Int)+(k:Int)).toNat=112+k:=by omega
   clear J z M f;by_cases N:0<x
   .obtain ⟨v,rfl⟩:=kq1 (show 0<=x by omega);have B:=DR v (by omega);rw[if_pos N,kqj] at d;obtain⟨y,U⟩:=xq (9223372041149743104+v);rw[U] at B d;have Kw:=hid B;have Lr:IntKind.u64.wrap (v:Int)=(v:Int):=kzw _ (by omega);clear U B Y g2;go_wp2;go_roundw
    case rel=>exact⟨k+1,by omega,by go_num,by rw[d.out];have h5:=g.out.set_ (112+k) y;rw[<-Kw.out] at h5;exact h5⟩
    case measure=>simp[intOf];omega
   rw[if_neg N] at d;go_wp2;go_roundw
   case rel=>exact⟨k+1,by omega,by go_num,by rw[d.out];exact g.out⟩
   case measure=>simp[intOf];omega
  obtain rfl:k=ss.length:=by omega
  have g:=hid f;clear f d;go_wp2;go_ret;rw[<-D.out] at g;have hl:=g.out.len;exact⟨w.heap.size,n,by rw[hl];rfl,by rw[hl];exact g.out.1,g.out.2⟩
 have t:Hid (xN n (r,a)=r):=hid (by unfold xN;rw[if_neg Lf]);rw[t.out] at D;have R:=hid f;clear E f t;go_wp2_with fail;go_loopw [15] (λi wr=>∃k:Nat,k<=ss.length/\i=.int .i64 k/\pp w.heap.size n w wr (ip ss r k)) (λi _=>ss.length-(intOf i).toNat)
 case atStart=>exact⟨0,kqz _,rfl,R.out⟩
 obtain⟨k,hk,rfl,f⟩:=hrel;have d:Hid (ip ss r (k+1)=if 0<ss[k]?.getD 0 then (ip ss r k).set (112+k) (9223372041149743104+(ss[k]?.getD 0).toNat) else ip ss r k):=hid rfl;by_cases m:k<ss.length
 .obtain ⟨b,o,rfl,hb,V⟩:=RdI.at_ (Rd.below HS.out f.2) m;obtain⟨Y,g2⟩:=Li.out k m;have z:ss[k]?.getD 0=ss[k]:=by simp[m]
  rw[z] at d Y g2;obtain⟨x,J⟩:=xq (ss[k]);rw[J] at V d Y g2;obtain⟨c4,M⟩:=xq (ip ss r k);rw[M] at d f;have g:=hid f;obtain⟨u0,c0,f0⟩:=f.cell (j:=112+k) (by omega);have Kz:(k:Int)<(ss.length:Int):=by omega
  have Eq:(0:Int)<=(k:Int):=by omega
  have Lh:(k:Int)<16:=by omega
  have i1:(0:Int)<=112+(k:Int):=by omega
  have i2:(112:Int)+(k:Int)<(n:Int):=by omega
  have n1:((112:Int)+(k:Int)).toNat=112+k:=by omega
  clear J z M f;by_cases N:0<x
  .obtain ⟨v,rfl⟩:=kq1 (show 0<=x by omega);have B:=DR v (by omega);rw[if_pos N,kqj] at d;obtain⟨y,U⟩:=xq (9223372041149743104+v);rw[U] at B d;have Kw:=hid B;have Lr:IntKind.u64.wrap (v:Int)=(v:Int):=kzw _ (by omega);clear U B Y g2;go_wp2;go_roundw
   case rel=>exact⟨k+1,by omega,by go_num,by rw[d.out];have h5:=g.out.set_ (112+k) y;rw[<-Kw.out] at h5;exact h5⟩
   case measure=>simp[intOf];omega
  rw[if_neg N] at d;go_wp2;go_roundw
  case rel=>exact⟨k+1,by omega,by go_num,by rw[d.out];exact g.out⟩
  case measure=>simp[intOf];omega
 obtain rfl:k=ss.length:=by omega
 have g:=hid f;clear f d;go_wp2;go_ret;rw[<-D.out] at g;have hl:=g.out.len;exact⟨w.heap.size,n,by rw[hl];rfl,by rw[hl];exact g.out.1,g.out.2⟩
theorem Rd.of_bx{g:Nat}{t:TypeId}{cs:Array Value}(h:Bx w g t cs)(hg:g<B):Rd w B (some ⟨g,0,none⟩) cs.toList:=λ_ =>
 ⟨g,0,rfl,hg,λj hj=>by
  rw[kxd,h.cell j]
  simp⟩
def fits (n:Nat) (ts:List (List Nat)) (bs:List Bk) (k:Nat):Prop:=(0<=(gk bs k).kind/\(gk bs k).kind<256)/\(0<=(gk bs k).typ/\(gk bs k).typ<128)/\(2<=(gk bs k).size/\(gk bs k).size<65536)/\(gh bs (kW ts (List.replicate n 0) ts.length,128) k).2+(gk bs k).size.toNat<=n
instance (n:Nat) (ts:List (List Nat)) (bs:List Bk) (k:Nat):Decidable (fits n ts bs k):=by unfold fits;infer_instance
end Go.Proofs.YtpcajamacpbjcaaGreat
