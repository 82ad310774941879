/- Texts laid together: Ref13 Bld Pair. -/
import Derived.Test.YtpcajamacpbjcaaGreatZKHeap
import Derived.Test.YtpcajamacpbjcaaGreatZKRefs
import Derived.Test.YtpcajamacpbjcaaGreatZKHead
import Derived.Test.YtpcajamacpbjcaaGreatZKMove
set_option maxHeartbeats 16000000
set_option maxRecDepth 100000
set_option linter.all false
namespace Go.Proofs.YtpcajamacpbjcaaGreat
open Lib (hid)
open Go.RowKit
variable {cur l:List Nat}{B H k n:Nat}{A:Option Addr}{w wr:World}
open Go.Proofs.Tryz
def fN:List Nat->Nat
 | []=>0
 | k::l=>fN l*4+k
theorem Ju(l:List Nat):∀j,mV l j=4 ^ j*fN l:=by
 induction l with
 | nil=>intro j;rfl
 | cons k l ih=>intro j;simp only[mV,fN,ih];rw[kjm,Nat.mul_add,kjd k,kjd (fN l) 4,kvm];omega
theorem GH(l:List Nat):fN l*256+l.length=iL l:=by unfold iL;rw[Ju,show (4:Nat) ^ 4=256 by decide];omega
theorem fN_lt(h:dN l=true):fN l<4 ^ l.length:=by
 induction l with
 | nil=>simp[fN]
 | cons k l ih =>rw[cQ] at h;have h1:=ih ((cQ l).2 λx a=>h x (by simp[a]));have h2:=h k (by simp);simp only[fN,kq0,kjm];omega
theorem IQ(hk:k<l.length):fN (l.drop k)=fN (l.drop (k+1))*4+l[k]:=by rw[kx0 hk];rfl
theorem pE(h8:l.length<=8)(h:dN l=true)(k:Nat):fN (l.drop k)<65536:=by
 have b:dN (l.drop k)=true:=(cQ _).2 λx a=>(cQ l).1 h x (kjb a);have h2:=fN_lt b;have h3:4 ^ (l.drop k).length<=4 ^ 8:=kja (by omega) (by rw[kzv];omega);have h4:(4:Nat) ^ 8=65536:=by decide
 omega
theorem xG(A:Option Addr)(l:List Nat)(c n B:Nat)(w:World)(hn:l.length=n)(h8:n<=8)(h:dN l=true)(hr:RdY w B A l):
 Calls prog 137 #[.slice A n c] w λe w'=>e=.returned (.int .u64 (iL l:Nat))/\w=w':=by
 subst hn;have v:=hid hr;have t:=hid (GH l);have p:=hid h;clear hr h;go_enter func137,ntmps137;go_wp2_with fail
 go_loop [3,4] (λs i=>∃k:Nat,k<=l.length/\i=.int .i64 ((k:Int)-1)/\s=.int .u64 (fN (l.drop k):Nat)) (λ_ i=>(intOf i+1).toNat)
 case atStart=>exact⟨l.length,kqa _,rfl,by rw[kkc];rfl⟩
 obtain⟨k,h,rfl,rfl⟩:=hrel;cases k with
 | zero =>
  have a:=pE h8 p.out 0;rw[List.drop_zero] at a |-;obtain⟨q,f⟩:=xq (fN l);rw[f] at a t |-;have m:(0:Int)<=(q:Int):=by omega
  have j:(q:Int)<65536:=by omega
  clear f;go_wp2;go_ret;exact⟨by rw[<-t.out];try simp,rfl⟩
 | succ k =>
  rw[show (((k+1:Nat):Int)-1)=(k:Int) by omega];have a:k<l.length:=by omega
  obtain⟨b,off,rfl,hb,u⟩:=v.out.at_ a;have f:=pE h8 p.out (k+1);have o:=hid (IQ a);have g:=((cQ l).1 p.out l[k] (kqq a)).2;obtain⟨x,r⟩:=xq (l[k]);obtain⟨q,d⟩:=xq (fN (l.drop (k+1)));rw[r] at u o g;rw[d] at f o |-;have m:(0:Int)<=(q:Int):=by omega
  have j:(q:Int)<65536:=by omega
  have hx0:(0:Int)<=(x:Int):=by omega
  have hx1:(x:Int)<=3:=by omega
  have hk0:(0:Int)<=(k:Int):=by omega
  have hkl:(k:Int)<(l.length:Int):=by omega
  clear r d;go_wp2_with fail
  go_round
  case rel=>exact⟨k,by omega,rfl,by rw[o.out];simp⟩
  case measure=>simp[intOf]<;>omega
theorem pm(A:Option Addr)(l:List Nat)(c n B:Nat)(w:World)(hn:l.length=n)(h8:n<=8)(d:dN l=true)(hr:RdY w B A l):
 Calls prog 136 #[.slice A n c] w λe w'=>e=.returned (.int .i64 0)/\w=w':=by
 subst hn;have h:=hid hr;have o:=hid d;clear hr d;go_enter func136,ntmps136;go_wp2_with fail
 go_loop [3] (λi=>∃k:Nat,k<=l.length/\i=.int .i64 k) (λi=>l.length-(intOf i).toNat)
 case atStart=>exact⟨0,kqy _,rfl⟩
 obtain⟨k,d,rfl⟩:=hrel;by_cases a:k<l.length
 .obtain ⟨b,off,rfl,hb,m⟩:=h.out.at_ a;obtain⟨g,j⟩:=(cQ l).1 o.out l[k] (kqq a);obtain⟨x,f⟩:=xq (l[k]);rw[f] at m g j;have e1:((x:Int)==0)=false:=by rw[kqi];omega
  clear f;go_wp2_with fail
  go_round
  case rel=>exact⟨k+1,by omega,by go_num⟩
  case measure=>simp[intOf];omega
 go_wp2;go_ret;exact⟨rfl,rfl⟩
theorem ra(A:Option Addr)(l:List Nat)(c n:Nat)(w:World)(hn:l.length=n)(hm:n<=2048)(hr:RdW w w.heap.size A l)(ho:∀x∈l,x<18446744073709551616):
 Calls prog 138 #[.slice A n c] w λe w'=>e=.returned (.int .u64 (aY 14695981039346656037 l:Nat))/\Below w.heap.size w w':=by have b:=hid (vC 14695981039346656037 A l c n w hn hm (by omega) hr ho);clear hr ho;obtain⟨q,d⟩:=xq (aY 14695981039346656037 l);rw[d] at b |-;clear d;go_enter func138,ntmps138;go_wp2_with fail;refine b.out.mono ?_;rintro e w1 ⟨rfl,a⟩;go_wp2;go_ret;exact⟨rfl,a⟩
theorem wF(A:Option Addr)(l:List Nat)(c n H:Nat)(w:World)(hn:l.length=n)(h8:n<=8)(hk:dN l=true)(hr:RdY w H A l)(hH:H<=w.heap.size):
 Calls prog 89 #[.slice A n c] w λe w'=>e=.returned (.tuple #[BQ (iL l) (ig (iL l)),.int .i64 0])/\Below w.heap.size w w':=by
 have d:RdY (w.alloc (.cells #[.int .u64 0,.int .u64 0] 157)) H A l:=Rd.alloc hr hH _;have I:=hid (pm A l c n H (w.alloc (.cells #[.int .u64 0,.int .u64 0] 157)) hn h8 hk d);have s:=hid (xG A l c n H (w.alloc (.cells #[.int .u64 0,.int .u64 0] 157)) hn h8 hk d);have D:=Bx.new w 157 #[.int .u64 0,.int .u64 0];have p:=BS (by omega) hk;have j:Hid (aY 14695981039346656037 [iL l]=ig (iL l)):=hid rfl;obtain⟨q,B⟩:=xq (iL l);rw[B] at s p j |-;have C:Hid (BQ q (ig q)=.agg #[.int .u64 (q:Int),.int .u64 (ig q:Nat)]):=hid rfl;have r:(prog.info? 157).map (·.size)=some 2:=by kernel_rfl
 have F:=hid D;clear hr d hk B D hn;go_enter func89,ntmps89;go_wp2_with fail;refine I.out.mono ?_;rintro e x ⟨rfl,rfl⟩;go_wp2_with fail;refine s.out.mono ?_;rintro e x ⟨rfl,rfl⟩;go_wp2_with fail;refine s.out.mono ?_;rintro e x ⟨rfl,rfl⟩;go_wp2_with fail;have b:=nw (w.alloc (.cells #[.int .u64 0,.int .u64 0] 157)) [.int .u64 (q:Int)] 53;refine (ra _ [q] _ 1 _ rfl (by omega) (by simp only[kqm] at b |-;exact b) (by intro y E;simp at E;subst E;omega)).mono ?_;rintro e x ⟨rfl,a⟩;rw[kqm,kqm] at a;have g:=(((kqk _ _).alloc (kqa _) (.cells #[.int .u64 0,.int .u64 0] 157)).alloc (by simp) (.cells #[.int .u64 (q:Int)] 53)).trans (a.mono (by omega));have i:=(F.out.alloc (.cells #[.int .u64 (q:Int)] 53)).up a (by omega);have m:=hid i;have k:=hid g;rw[j.out];obtain⟨z,t⟩:=xq (ig q);have G:=hid t;rw[t] at C |-;clear t i g a b;go_wp2_with ((with_reducible refine ar 157 (.tmp 2) _ ?_);refine am rfl _ _ _ rfl w.heap.size 157 #[.int .u64 0,.int .u64 0] #[.int .u64 (q:Int),.int .u64 (z:Int)] (by rfl) (by rfl) m.out rfl r (by simp[Value.oneCell']) ?_;intro w3 h f;have u:=hid h;have o:=hid f;clear h f);exact kqo (v:=.tuple #[.agg #[.int .u64 (q:Int),.int .u64 (z:Int)],.int .i64 0]) (kg results89 _ u.out rfl rfl) rfl ⟨by rw[G.out,C.out],o.out.below k.out (kqa _)⟩
def Ip (w:List Nat) (i:Nat) (t:List Nat):List Nat:=(w.set (96+2*i) (iL t)).set (96+2*i+1) (ig (iL t))
def kz (ts:List (List Nat)) (w:List Nat):Nat->List Nat
 | 0=>w
 | k+1=>Ip (kz ts w k) k (ts[k]?.getD [])
def Hp (w:List Nat) (a:Nat) (b:Bk):List Nat:=(w.set a (cV b)).set (a+1) b.next
def fQ (bs:List Bk) (s:List Nat × Nat):Nat->List Nat × Nat
 | 0=>s
 | k+1=>(Hp (fQ bs s k).1 (fQ bs s k).2 (gk bs k),(fQ bs s k).2+(gk bs k).size.toNat)
def ep (n:Nat):Bk:=⟨0,(n:Int),2,0,false,0⟩
def xW (n:Nat) (s:List Nat × Nat):List Nat:=if s.2<n then s.1.set s.2 (cV (ep (n-s.2))) else s.1
def gK (ss:List Int) (w:List Nat):Nat->List Nat
 | 0=>w
 | k+1=>if 0<ss[k]?.getD 0 then (gK ss w k).set (112+k) (9223372041149743104+(ss[k]?.getD 0).toNat) else gK ss w k
def CJ (n:Nat) (ts:List (List Nat)) (bs:List Bk):List Nat × Nat:=fQ bs (kz ts (List.replicate n 0) ts.length,128) bs.length
def np (n:Nat) (ts:List (List Nat)) (bs:List Bk) (ss:List Int):List Nat:=gK ss (xW n (CJ n ts bs)) ss.length
theorem wC(n:Nat):(List.replicate n 0).flatMap ag=List.replicate n (.int .u64 0):=by
 induction n with
 | zero=>rfl
 | succ n ih=>rw[kjx,kzx,ih,kjx];rfl
theorem sm(K T S:Nat)(m:Bool)(a:Int)(x:Nat):cV ⟨a,(S:Int),(K:Int),(T:Int),m,x⟩=K+ov m*256+T*512+S*65536+ig (K+ov m*256+T*512+S*65536)%4294967296*4294967296:=by unfold cV kD;simp only[kqj]
structure Ty where
 A:Option Addr
 c:Nat
 l:List Nat
 deriving Inhabited
def Ty.cells (x:Ty):List Value:=[.slice x.A x.l.length x.c]
theorem Ty.len(x:Ty):x.cells.length=1:=rfl
def RdT (w:World) (B:Nat) (A:Option Addr) (ts:List Ty):Prop:=Rd w B A (ts.flatMap Ty.cells)/\∀x∈ts,RdY w B x.A x.l/\x.l.length<=8/\dN x.l=true
theorem RdT.at_{l:List Ty}(h:RdT w B A l)(hk:k<l.length):
 ∃b a,A=some ⟨b,a,none⟩/\b<B/\w.cell? ⟨b,a+k,none⟩=some (.slice l[k].A l[k].l.length l[k].c)/\RdY w B l[k].A l[k].l/\l[k].l.length<=8/\dN l[k].l=true:=by obtain⟨b,a,e,d,f⟩:=Rd.at_flat Ty.len h.1 (by omega) hk;have:=f 0 (by omega);simp only[kxm,kz8] at this;obtain⟨j,g,i⟩:=h.2 l[k] (kqq hk);exact⟨b,a,e,d,this,j,g,i⟩
theorem RdT.below{w':World}{l:List Ty}(h:RdT w B A l)(hb:Below B w w'):RdT w' B A l:=⟨h.1.below hb,λx a=>⟨(h.2 x a).1.below hb,(h.2 x a).2⟩⟩
theorem RdT.more{B':Nat}{l:List Ty}(h:RdT w B A l)(hB:B<=B'):RdT w B' A l:=⟨h.1.more hB,λx a=>⟨(h.2 x a).1.more hB,(h.2 x a).2⟩⟩
theorem RdT.nil_ :RdT w B none []:=⟨Rd.nil_,λx h=>by cases h⟩
def oJ (H n:Nat) (w wr:World) (cur:List Nat):Prop:=wr.ownsRow H 53 1 (.slice (some ⟨H,0,none⟩) n n) n (cur.flatMap ag)/\Below H w wr
theorem oJ.len(h:oJ H n w wr cur):cur.length=n:=by have:=h.1.1;rw[io] at this;omega
theorem oJ.set_(h:oJ H n w wr cur)(j v:Nat):oJ H n w (wr.setCell ⟨H,j,none⟩ (.int .u64 (v:Int))) (cur.set j v):=by refine⟨?_,h.2.setCell (p:=⟨H,j,none⟩) (kqa _) _⟩;rw[nD];exact (h.1.stored j (.int .u64 (v:Int))).1
theorem oJ.alloc(h:oJ H n w wr cur)(o:Obj):oJ H n w (wr.alloc o) cur:=⟨h.1.alloc o,h.2.alloc (kxn (h.1.lt H rfl).2) o⟩
theorem oJ.drew(h:oJ H n w wr cur):oJ H n w wr.drew cur:=⟨h.1,h.2.drew⟩
theorem oJ.up{w1:World}(h:oJ H n w wr cur)(hb:Below wr.heap.size wr w1):oJ H n w w1 cur:=⟨ai h.1 hb (kqa _),h.2.trans (hb.mono (kxn (h.1.lt H rfl).2))⟩
theorem oJ.cell(h:oJ H n w wr cur){j:Nat}(hj:j<n):∃u,wr.cell? ⟨H,j,none⟩=some u/\wr.frozen? ⟨H,j,none⟩=false:=
 ⟨_,(h.1.cellAt j (by omega)).trans (sE cur j (by rw[h.len];exact hj)),h.1.frozenAt j⟩
theorem C8(v:Nat)(hv:v<4294967296):bits BinOp.or .u64 9223372041149743104 (v:Int)=((9223372041149743104+v:Nat):Int):=by
 have h:=u64_or_nat 9223372041149743104 v (by omega) (by omega);have e:9223372041149743104 ||| v=9223372041149743104+v:=by rw[Nat.or_comm,show (9223372041149743104:Nat)=2147483649*2 ^ 32 by decide,km (i:=32) (by omega),kju]
 rw[e] at h;exact h
theorem ui(TA BA SA:Option Addr)(ts:List Ty)(bs:List Bk)(ss:List Int)(tc bc sc n H:Nat)(w:World)(hn:n<=2048)(h128:128<=n)(hT:RdT w H TA ts)(ht8:ts.length<=8)(hB0:RdB w H BA bs)(hS:RdI w H SA ss)(hs16:ss.length<=16)(hH:H<=w.heap.size)(hb2:bs.length<=2048)(hbs:∀k,k<bs.length->(0<=(gk bs k).kind/\(gk bs k).kind<256)/\(0<=(gk bs k).typ/\(gk bs k).typ<128)/\(2<=(gk bs k).size/\(gk bs k).size<65536)/\(fQ bs (kz (ts.map Ty.l) (List.replicate n 0) ts.length,128) k).2+(gk bs k).size.toNat<=n)(hss:∀k,k<ss.length->ss[k]?.getD 0<4294967296 /\ -4294967296<ss[k]?.getD 0):
 Calls prog 47 #[.int .i64 (n:Int),.slice TA ts.length tc,.slice BA bs.length bc,.slice SA ss.length sc] w λe w'=>xB w (np n (ts.map Ty.l) bs ss) e w':=by
 have HT:=hid (hT.more hH);have Kw:=hid (hB0.more hH);have HS:=hid (hS.more hH);have Z:=hid hbs;have Kd:=hid hss;clear hT hB0 hS hH hbs hss;obtain⟨i0,hi,Ki,Kj,Km⟩:=kzw mG;obtain⟨W0,Kt,N,Ke⟩:=run_make_full (P:=prog) w w.heap.size 22 53 i0 (.int .u64 0) 1 underlying22 hi Ki Kj .i64 .i64 n (by rw[Km];omega) (by unfold maxLen;omega) (kqa _);have Kn:=hid (show oJ w.heap.size n w W0 (List.replicate n 0) from ⟨by rw[wC,<-toList_madeCells_one];have:=N;rw[kxm] at this;exact this,(kqk _ _).grown Ke (kqa _) (λk hk=>by cases hk)⟩);clear N Ke hi Ki Kj Km;go_enter func47,ntmps47;go_wp2_with fail;clear Kt;go_loopw [10] (λi wr=>∃k:Nat,k<=ts.length/\i=.int .i64 k/\oJ w.heap.size n w wr (kz (ts.map Ty.l) (List.replicate n 0) k)) (λi _=>ts.length-(intOf i).toNat)
 case atStart=>exact⟨0,kqy _,rfl,Kn.out⟩
 obtain⟨k,hk,rfl,f⟩:=hrel;by_cases m:k<ts.length
 .obtain ⟨b,o,rfl,hb,h0,U,Ku,Kg⟩:=RdT.at_ (HT.out.below f.2) m;have d:Hid (kz (ts.map Ty.l) (List.replicate n 0) (k+1)=Ip (kz (ts.map Ty.l) (List.replicate n 0) k) k ts[k].l):=hid (by simp[kz,m]);have HC:=hid (wF ts[k].A ts[k].l ts[k].c ts[k].l.length w.heap.size wr rfl Ku Kg U f.2.size);obtain⟨x,O⟩:=xq (ts[k]);rw[O] at h0 d HC;obtain⟨xA,xc,xl⟩:=x;dsimp only at h0 d HC;obtain⟨p,hp⟩:=xq (iL xl);obtain⟨q,hq⟩:=xq (ig p);unfold Ip at d;unfold BQ at HC;rw[hp,hq] at HC d;have HO:=hid f;have Ka:(k:Int)<(ts.length:Int):=by omega
  have Kb:(0:Int)<=(k:Int):=by omega
  have w1:IntKind.i64.wrap (2*(k:Int))=2*(k:Int):=kqs _ (by omega);have w2:IntKind.i64.wrap (96+2*(k:Int))=96+2*(k:Int):=kqs _ (by omega);have w3:IntKind.i64.wrap (96+2*(k:Int)+1)=96+2*(k:Int)+1:=kqs _ (by omega);have i1:(0:Int)<=96+2*(k:Int):=by omega
  have i2:(96:Int)+2*(k:Int)<(n:Int):=by omega
  have i3:(0:Int)<=96+2*(k:Int)+1:=by omega
  have i4:(96:Int)+2*(k:Int)+1<(n:Int):=by omega
  have n1:((96:Int)+2*(k:Int)).toNat=96+2*k:=by omega
  have n2:((96:Int)+2*(k:Int)+1).toNat=96+2*k+1:=by omega
  clear O hp hq f U Kg;go_wp2_with fail;refine HC.out.mono ?_;rintro e Q ⟨rfl,Kc⟩;have I:=(HO.out.up Kc).alloc (.cells #[.int .u64 (p:Int),.int .u64 (q:Int)] 157);have bx:=Bx.new Q 157 #[.int .u64 (p:Int),.int .u64 (q:Int)];go_wp2_with fail;obtain⟨W,hW⟩:∃W,Q.alloc (.cells #[.int .u64 (p:Int),.int .u64 (q:Int)] 157)=W:=⟨_,rfl⟩;rw[hW] at I bx |-;obtain⟨x0,x1,-,-,hgg⟩:=bx.c2;obtain⟨u0,c0,f0⟩:=I.cell (j:=96+2*k) (by omega);obtain⟨u1,c1,f1⟩:=I.cell (j:=96+2*k+1) (by omega);have hne:w.heap.size≠Q.heap.size:=by have:=HO.out.2.size;have:=Kc.size;have:=HO.out.1.lt w.heap.size rfl;omega
  have G:=hid I;clear hW I bx Kc
  first
   | (go_region_held3 (λX:World=>X.cell? ⟨Q.heap.size,0,none⟩=some (.int .u64 (p:Int))/\X.cell? ⟨Q.heap.size,1,none⟩=some (.int .u64 (q:Int))) (go_keep) (fail))
   | fail
  all_goals
   go_wp2;go_roundw
   case rel=>exact⟨k+1,by omega,by go_num,by rw[d.out];exact ((G.out.drew).set_ _ _).set_ _ _⟩
   case measure=>simp[intOf];omega
 obtain rfl:k=ts.length:=by omega
 obtain⟨F,Eq⟩:=xq (kz (ts.map Ty.l) (List.replicate n 0) ts.length);have Ks:=hid Eq;rw[Eq] at f Z;have HO:=hid f;obtain⟨wa,rfl⟩:∃wa:World,wa=wr:=⟨_,rfl⟩;clear Eq f Kn;go_wp2_with fail;go_loopw [13,14] (λp i wr=>∃k:Nat,k<=bs.length/\i=.int .i64 k/\p=.int .i64 ((fQ bs (F,128) k).2:Nat)/\oJ w.heap.size n w wr (fQ bs (F,128) k).1) (λ_ i _=>bs.length-(intOf i).toNat)
 case atStart=>exact⟨0,kqy _,rfl,rfl,HO.out⟩
 obtain⟨k,hk,rfl,rfl,f⟩:=hrel;have d:Hid (fQ bs (F,128) (k+1)=(Hp (fQ bs (F,128) k).1 (fQ bs (F,128) k).2 (gk bs k),(fQ bs (F,128) k).2+(gk bs k).size.toNat)):=hid rfl;by_cases m:k<bs.length
 .obtain ⟨b,o,rfl,hb,q0,q1,q2,q3,q4,q5⟩:=RdB.at_ (Rd.below Kw.out f.2) m;obtain⟨⟨e1,e2⟩,⟨e3,e4⟩,⟨e5,e6⟩,e7⟩:=Z.out k m;rw[<-bP bs k m] at q0 q1 q2 q3 q4 q5;obtain⟨x,O⟩:=xq (gk bs k);obtain⟨s1,E⟩:=xq (fQ bs (F,128) k);rw[O] at q0 q1 q2 q3 q4 q5 d e1 e2 e3 e4 e5 e6 e7;rw[E] at d f e7 |-;obtain⟨xa,xs,xk,xt,xm,xn⟩:=x;obtain⟨r,a⟩:=s1;dsimp only at q0 q1 q2 q3 q4 q5 e1 e2 e3 e4 e5 e6 e7 f d |-;obtain⟨K,rfl⟩:=kq2 e1;obtain⟨T,rfl⟩:=kq2 e3;obtain⟨S,rfl⟩:=kq2 (show 0<=xs by omega);simp only[kqj] at e7 d;unfold Hp at d;rw[sm] at d;have B:=hid (λW=>nJ K T S xm W (by omega) (by omega) (by omega));obtain⟨h,hh⟩:=xq (K+ov xm*256+T*512+S*65536+ig (K+ov xm*256+T*512+S*65536)%4294967296*4294967296);rw[hh] at d B;have G:=hid f;have Ka:(k:Int)<(bs.length:Int):=by omega
  have Kb:(0:Int)<=(k:Int):=by omega
  have Kq:(0:Int)<=(a:Int):=by omega
  have Ko:(a:Int)<(n:Int):=by omega
  have ha2:(a:Int)+1<(n:Int):=by omega
  have ha3:(0:Int)<=(a:Int)+1:=by omega
  have hwr:IntKind.i64.wrap ((a:Int)+1)=(a:Int)+1:=kqs _ (by omega);have htn:((a:Int)+1).toNat=a+1:=by omega
  have hle:(a:Int)+(S:Int)<=(n:Int):=by omega
  have hS0:(0:Int)<=(S:Int):=by omega
  have hbh:b<w.heap.size:=hb;have J:b<wr.heap.size:=by have:=f.2.size;omega
  have hbn:b≠w.heap.size:=by omega
  have hbn2:w.heap.size≠b:=by omega
  clear O E hh f e1 e2 e3 e4 e5 e6;go_wp2_with fail
  first
   | (go_region_held3 (λX:World=>X.cell? ⟨b,o+k*6+1,none⟩=some (.int .i64 (S:Int))/\X.cell? ⟨b,o+k*6+2,none⟩=some (.int .i64 (K:Int))/\X.cell? ⟨b,o+k*6+3,none⟩=some (.int .i64 (T:Int))/\X.cell? ⟨b,o+k*6+4,none⟩=some (.bool xm)/\X.cell? ⟨b,o+k*6+5,none⟩=some (.int .u64 (xn:Int))) (go_keep)
    (first | (go_at_call 90;refine (B.out _).mono ?_;rintro e w5 ⟨rfl,s⟩;have m1:=(s.cell (p:=⟨b,o+k*6+1,none⟩) J).trans q1;have m2:=(s.cell (p:=⟨b,o+k*6+2,none⟩) J).trans q2;have m3:=(s.cell (p:=⟨b,o+k*6+3,none⟩) J).trans q3;have m4:=(s.cell (p:=⟨b,o+k*6+4,none⟩) J).trans q4;have m5:=(s.cell (p:=⟨b,o+k*6+5,none⟩) J).trans q5;have t:=G.out.drew.up s;obtain⟨u0,c0,f0⟩:=t.cell (j:=a) (by omega);obtain⟨u1,c1,f1⟩:=t.cell (j:=a+1) (by omega);have Kr:=hid t;clear s t)))
   | fail
  all_goals
   go_wp2;go_roundw
   case rel=>exact⟨k+1,by omega,by go_num,by rw[d.out];simp,by rw[d.out];exact ((Kr.out).set_ _ _).set_ _ _⟩
   case measure=>simp[intOf];omega
 obtain rfl:k=bs.length:=by omega
 clear d Z;have Kp:Hid (CJ n (ts.map Ty.l) bs=fQ bs (F,128) bs.length):=hid (by unfold CJ;rw[<-Ks.out,kzo]);have D:Hid (np n (ts.map Ty.l) bs ss=gK ss (xW n (fQ bs (F,128) bs.length)) ss.length):=hid (by unfold np;rw[Kp.out]);obtain⟨s1,E⟩:=xq (fQ bs (F,128) bs.length);rw[E] at f D |-;obtain⟨r,a⟩:=s1;dsimp only at f |-;obtain⟨wa,rfl⟩:∃wa:World,wa=wr:=⟨_,rfl⟩;have Kq:(0:Int)<=(a:Int):=by omega
 by_cases Kf:a<n
 .have z:Hid (xW n (r,a)=r.set a (cV (ep (n-a)))):=hid (by unfold xW;rw[if_pos Kf]);rw[z.out] at D;have Kk:cV (ep (n-a))=2+ov false*256+0*512+(n-a)*65536+ig (2+ov false*256+0*512+(n-a)*65536)%4294967296*4294967296:=sm 2 0 (n-a) false 0 0;have B:=hid (λW=>nJ 2 0 (n-a) false W (by omega) (by omega) (by omega));rw[<-Kk] at B;obtain⟨h,hh⟩:=xq (cV (ep (n-a)));rw[hh] at B D;rw[show (((n-a:Nat)):Int)=(n:Int)-(a:Int) by omega] at B;have G:=hid f;have Ko:(a:Int)<(n:Int):=by omega
  clear E Kk hh f z;go_wp2_with fail;refine (B.out _).mono ?_;rintro e w5 ⟨rfl,s⟩;have t:=G.out.up s;obtain⟨u0,c0,f0⟩:=t.cell (j:=a) (by omega);have R:=hid (t.set_ a h);clear s t;go_wp2_with fail;obtain⟨c3,Kl⟩:=xq (r.set a h);rw[Kl] at R D;clear Kl c0 f0;go_loopw [15] (λi wr=>∃k:Nat,k<=ss.length/\i=.int .i64 k/\oJ w.heap.size n w wr (gK ss c3 k)) (λi _=>ss.length-(intOf i).toNat)
  case atStart=>exact⟨0,kqy _,rfl,R.out⟩
  obtain⟨k,hk,rfl,f⟩:=hrel;have d:Hid (gK ss c3 (k+1)=if 0<ss[k]?.getD 0 then (gK ss c3 k).set (112+k) (9223372041149743104+(ss[k]?.getD 0).toNat) else gK ss c3 k):=hid rfl;by_cases m:k<ss.length
  .obtain ⟨b,o,rfl,hb,q0⟩:=RdI.at_ (Rd.below HS.out f.2) m;obtain⟨g1,Y⟩:=Kd.out k m;have u:ss[k]?.getD 0=ss[k]:=by simp[m]
   rw[u] at d g1 Y;obtain⟨x,O⟩:=xq (ss[k]);rw[O] at q0 d g1 Y;obtain⟨c4,M⟩:=xq (gK ss c3 k);rw[M] at d f;have g:=hid f;obtain⟨u0,c0,f0⟩:=f.cell (j:=112+k) (by omega);have Ka:(k:Int)<(ss.length:Int):=by omega
   have Kb:(0:Int)<=(k:Int):=by omega
   have Kh:(k:Int)<16:=by omega
   have i1:(0:Int)<=112+(k:Int):=by omega
   have i2:(112:Int)+(k:Int)<(n:Int):=by omega
   have n1:((112:Int)+(k:Int)).toNat=112+k:=by omega
   clear O u M f;by_cases L:0<x
   .obtain ⟨v,rfl⟩:=kq2 (show 0<=x by omega);have C:=C8 v (by omega);rw[if_pos L,kqj] at d;obtain⟨y,U⟩:=xq (9223372041149743104+v);rw[U] at C d;have V:=hid C;have Kv:IntKind.u64.wrap (v:Int)=(v:Int):=kzt _ (by omega);clear U C g1 Y;go_wp2;go_roundw
    case rel=>exact⟨k+1,by omega,by go_num,by rw[d.out];have h5:=g.out.set_ (112+k) y;rw[<-V.out] at h5;exact h5⟩
    case measure=>simp[intOf];omega
   rw[if_neg L] at d;go_wp2;go_roundw
   case rel=>exact⟨k+1,by omega,by go_num,by rw[d.out];exact g.out⟩
   case measure=>simp[intOf];omega
  obtain rfl:k=ss.length:=by omega
  have g:=hid f;clear f d;go_wp2;go_ret;rw[<-D.out] at g;have hl:=g.out.len;exact⟨w.heap.size,n,by rw[hl];rfl,by rw[hl];exact g.out.1,g.out.2⟩
 have z:Hid (xW n (r,a)=r):=hid (by unfold xW;rw[if_neg Kf]);rw[z.out] at D;have R:=hid f;clear E f z;go_wp2_with fail;go_loopw [15] (λi wr=>∃k:Nat,k<=ss.length/\i=.int .i64 k/\oJ w.heap.size n w wr (gK ss r k)) (λi _=>ss.length-(intOf i).toNat)
 case atStart=>exact⟨0,kqy _,rfl,R.out⟩
 obtain⟨k,hk,rfl,f⟩:=hrel;have d:Hid (gK ss r (k+1)=if 0<ss[k]?.getD 0 then (gK ss r k).set (112+k) (9223372041149743104+(ss[k]?.getD 0).toNat) else gK ss r k):=hid rfl;by_cases m:k<ss.length
 .obtain ⟨b,o,rfl,hb,q0⟩:=RdI.at_ (Rd.below HS.out f.2) m;obtain⟨g1,Y⟩:=Kd.out k m;have u:ss[k]?.getD 0=ss[k]:=by simp[m]
  rw[u] at d g1 Y;obtain⟨x,O⟩:=xq (ss[k]);rw[O] at q0 d g1 Y;obtain⟨c4,M⟩:=xq (gK ss r k);rw[M] at d f;have g:=hid f;obtain⟨u0,c0,f0⟩:=f.cell (j:=112+k) (by omega);have Ka:(k:Int)<(ss.length:Int):=by omega
  have Kb:(0:Int)<=(k:Int):=by omega
  have Kh:(k:Int)<16:=by omega
  have i1:(0:Int)<=112+(k:Int):=by omega
  have i2:(112:Int)+(k:Int)<(n:Int):=by omega
  have n1:((112:Int)+(k:Int)).toNat=112+k:=by omega
  clear O u M f;by_cases L:0<x
  .obtain ⟨v,rfl⟩:=kq2 (show 0<=x by omega);have C:=C8 v (by omega);rw[if_pos L,kqj] at d;obtain⟨y,U⟩:=xq (9223372041149743104+v);rw[U] at C d;have V:=hid C;have Kv:IntKind.u64.wrap (v:Int)=(v:Int):=kzt _ (by omega);clear U C g1 Y;go_wp2;go_roundw
   case rel=>exact⟨k+1,by omega,by go_num,by rw[d.out];have h5:=g.out.set_ (112+k) y;rw[<-V.out] at h5;exact h5⟩
   case measure=>simp[intOf];omega
  rw[if_neg L] at d;go_wp2;go_roundw
  case rel=>exact⟨k+1,by omega,by go_num,by rw[d.out];exact g.out⟩
  case measure=>simp[intOf];omega
 obtain rfl:k=ss.length:=by omega
 have g:=hid f;clear f d;go_wp2;go_ret;rw[<-D.out] at g;have hl:=g.out.len;exact⟨w.heap.size,n,by rw[hl];rfl,by rw[hl];exact g.out.1,g.out.2⟩
theorem Rd.of_bx{g:Nat}{t:TypeId}{cs:Array Value}(h:Bx w g t cs)(hg:g<B):Rd w B (some ⟨g,0,none⟩) cs.toList:=λ_ =>
 ⟨g,0,rfl,hg,λj hj=>by
  rw[kxd,h.cell j]
  simp⟩
def obj4 (m:Bool):Bk:=⟨0,4,1,0,m,0⟩
def fits (n:Nat) (ts:List (List Nat)) (bs:List Bk) (k:Nat):Prop:=(0<=(gk bs k).kind/\(gk bs k).kind<256)/\(0<=(gk bs k).typ/\(gk bs k).typ<128)/\(2<=(gk bs k).size/\(gk bs k).size<65536)/\(fQ bs (kz ts (List.replicate n 0) ts.length,128) k).2+(gk bs k).size.toNat<=n
instance (n:Nat) (ts:List (List Nat)) (bs:List Bk) (k:Nat):Decidable (fits n ts bs k):=by unfold fits;infer_instance
end Go.Proofs.YtpcajamacpbjcaaGreat
