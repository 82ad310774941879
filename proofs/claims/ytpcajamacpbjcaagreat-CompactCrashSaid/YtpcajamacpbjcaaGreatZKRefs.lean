/- Texts laid together: Ref01 Ref05 Ref14W. -/
import Derived.Test.YtpcajamacpbjcaaGreatZKHead
set_option maxHeartbeats 16000000
set_option maxRecDepth 100000
set_option linter.all false
namespace Go.Proofs.YtpcajamacpbjcaaGreat
open Lib (hid)
open Go.RowKit
variable {f n v w:Nat}
open Go.Proofs.Tryz
def bB (w f n:Nat):Nat:=w/2 ^ f%2 ^ n
def iP (w f n v:Nat):Nat:=w-bB w f n*2 ^ f+v%2 ^ n*2 ^ f
theorem lW(w f n:Nat):bB w f (n+1)=bB w f n+w/2 ^ (f+n)%2*2 ^ n:=by unfold bB;rw[kji,Nat.mod_mul,kxd,<-kj3,kjd (2 ^ n)]
theorem vv(w f n:Nat):bB w f n<2 ^ n:=kz0 _ (kvr (by omega))
theorem o9(w f n:Nat):bB w f n*2 ^ f<=w:=by have a:bB w f n<=w/2 ^ f:=Nat.mod_le _ _;exact kz5 (kxs _ a) (Nat.div_mul_le_self _ _)
theorem wK(w f v:Nat):iP w f 0 v=w:=by simp[iP,bB,Nat.mod_one]
theorem qH(w f n v:Nat):iP w f n v/2 ^ (f+n)=w/2 ^ (f+n):=by
 have g:0<2 ^ (f+n):=kvr (by omega);have h1:w=w/2 ^ (f+n)*2 ^ (f+n)+(bB w f n*2 ^ f+w%2 ^ f):=by
  have e1:=kvf w (2 ^ f);have a:=kvf (w/2 ^ f) (2 ^ n);rw[kxd,<-kj3] at a;unfold bB;have d:2 ^ f*(w/2 ^ f)=2 ^ f*(2 ^ n*(w/2 ^ (f+n))+w/2 ^ f%2 ^ n):=by rw[a]
  rw[Nat.mul_add,<-kve,<-kj3] at d;rw[kjd (w/2 ^ (f+n)),kjd (w/2 ^ f%2 ^ n)];omega
 have c:iP w f n v=w/2 ^ (f+n)*2 ^ (f+n)+(v%2 ^ n*2 ^ f+w%2 ^ f):=by unfold iP;omega
 have e:v%2 ^ n*2 ^ f+w%2 ^ f<2 ^ (f+n):=by have h:v%2 ^ n+1<=2 ^ n:=kz0 _ (kvr (by omega));have a2:w%2 ^ f<2 ^ f:=kz0 _ (kvr (by omega));have b:(v%2 ^ n+1)*2 ^ f<=2 ^ n*2 ^ f:=kxs _ h;rw[kj3,kjd (2 ^ f)];rw[kjg] at b;omega
 rw[c,kjd,Nat.mul_add_div g,Nat.div_eq_of_lt e,kz8]
theorem xG(w f n v:Nat):iP w f (n+1) v=iP w f n v-iP w f n v/2 ^ (f+n)%2*2 ^ (f+n)+v/2 ^ n%2*2 ^ (f+n)/\iP w f n v/2 ^ (f+n)%2*2 ^ (f+n)<=iP w f n v:=by
 have a:iP w f n v/2 ^ (f+n)%2*2 ^ (f+n)<=iP w f n v:=kz5 (kxs _ (Nat.mod_le _ _)) (Nat.div_mul_le_self _ _);refine⟨?_,a⟩;rw[qH] at a |-;have b:=lW w f n;have c:v%2 ^ (n+1)=v%2 ^ n+v/2 ^ n%2*2 ^ n:=by rw[kji,Nat.mod_mul,kjd (2 ^ n)]
 have d:=o9 w f (n+1);have e4:=o9 w f n;unfold iP at a |-;rw[b,kjg,kve (w/2 ^ (f+n)%2),<-kj3,kjp n f] at d |-;rw[c,kjg,kve (v/2 ^ n%2),<-kj3,kjp n f];omega
theorem uv(hw:w<18446744073709551616)(h:f+n<=64):iP w f n v<18446744073709551616:=by
 have a:0<2 ^ (f+n):=kvr (by omega);have e:18446744073709551616=2 ^ (64-(f+n))*2 ^ (f+n):=by rw[<-kj3,show 64-(f+n)+(f+n)=64 by omega]
 rw[e,<-Nat.div_lt_iff_lt_mul a] at hw |-;rw[qH];exact hw
theorem ry(h:f+n<=64):bB w f n<18446744073709551616:=
 kjm (vv w f n) (show 2 ^ n<=2 ^ 64 from kx9 (by omega) (by omega))
theorem Gj(x i:Nat)(w:World)(hx:x<18446744073709551616)(hi:i<=64):
 Calls prog 200 #[.int .u64 (x:Int),.int .i64 (i:Int)] w λe w'=>e=.returned (.int .u64 ((x/2 ^ i%2:Nat):Int))/\w'=w:=by
 have f:=hid hx;clear hx;go_enter func200,ntmps200;go_wp2_with fail;go_loopw [0,5] (λv k wr=>∃j:Nat,j<=i/\k=.int .i64 j/\v=.int .u64 ((x/2 ^ j:Nat):Int)/\wr=w) (λ_ k _=>i-(intOf k).toNat)
 case atStart=>exact⟨0,kqy _,rfl,by simp,rfl⟩
 obtain⟨j,hj,rfl,rfl,rfl⟩:=hrel;obtain⟨y,a⟩:=xq (x/2 ^ j);rw[a];have hy0:(0:Int)<=(y:Int):=by omega
 have c:=hid a;have b:=hid (show y<18446744073709551616 by rw[<-a];exact kkc (kku _ _) f.out);clear a;by_cases hlt:j<i
 .have ik1:(j:Int)<(i:Int):=by omega
  have hy1:(y:Int)/2<18446744073709551616:=by have:=b.out;omega
  have hy2:(0:Int)<=(y:Int)/2:=by omega
  have d:Hid (x/2 ^ (j+1)=y/2):=hid (by rw[<-c.out,kji,kxd]);go_wp2;go_roundw
  case rel=>exact⟨j+1,by omega,by go_num,by rw[d.out];go_num,trivial⟩
  case measure=>simp[intOf];omega
 obtain rfl:j=i:=by omega
 go_wp2;go_ret;rw[c.out];exact⟨by go_num,rfl⟩
theorem BV(i:Nat)(w:World)(hi:i<64):
 Calls prog 201 #[.int .i64 (i:Int)] w λe w'=>e=.returned (.int .u64 ((2 ^ i:Nat):Int))/\w'=w:=by
 go_enter func201,ntmps201;go_wp2_with fail;go_loopw [3,4] (λv k wr=>∃j:Nat,j<=i/\k=.int .i64 j/\v=.int .u64 ((2 ^ j:Nat):Int)/\wr=w) (λ_ k _=>i-(intOf k).toNat)
 case atStart=>exact⟨0,kqy _,rfl,rfl,rfl⟩
 obtain⟨j,hj,rfl,rfl,rfl⟩:=hrel;obtain⟨y,a⟩:=xq (2 ^ j);rw[a];have hy0:(0:Int)<=(y:Int):=by omega
 have b:=hid a;by_cases hlt:j<i
 .have ik1:(j:Int)<(i:Int):=by omega
  have hy1:(y:Int)*2<18446744073709551616:=by have d:2 ^ (j+1)<=2 ^ 63:=kx9 (by omega) (by omega);rw[kji,a] at d;omega
  have c:Hid (2 ^ (j+1)=y*2):=hid (by rw[<-b.out,kji]);clear a;go_wp2;go_roundw
  case rel=>exact⟨j+1,by omega,by go_num,by rw[c.out];go_num,trivial⟩
  case measure=>simp[intOf];omega
 obtain rfl:j=i:=by omega
 clear a;go_wp2;go_ret;rw[b.out];exact⟨by go_num,rfl⟩
theorem jo(x f n:Nat)(w:World)(hx:x<18446744073709551616)(hi:f+n<=64):
 Calls prog 202 #[.int .u64 (x:Int),.int .i64 (f:Int),.int .i64 (n:Int)] w λe w'=>e=.returned (.int .u64 ((bB x f n:Nat):Int))/\w'=w:=by
 have u:=hid hx;clear hx;go_enter func202,ntmps202;go_wp2_with fail;go_loopw [7,8] (λv k wr=>∃j:Nat,j<=n/\k=.int .i64 j/\v=.int .u64 ((bB x f j:Nat):Int)/\wr=w) (λ_ k _=>n-(intOf k).toNat)
 case atStart=>exact⟨0,kqy _,rfl,by simp[bB,Nat.mod_one],rfl⟩
 obtain⟨j,hj,rfl,rfl,rfl⟩:=hrel;obtain⟨y,c⟩:=xq (bB x f j);rw[c];have hy0:(0:Int)<=(y:Int):=by omega
 by_cases hlt:j<n
 .have ik1:(j:Int)<(n:Int):=by omega
  have d:=Gj x (f+j) wr u.out (by omega);have i:=BV j wr (by omega);have a:=lW x f j;have g:=ry (w:=x) (f:=f) (n:=j+1) (by omega);obtain⟨b,h⟩:=xq (x/2 ^ (f+j)%2);obtain⟨p,l⟩:=xq (2 ^ j);rw[h,kjs] at d;rw[l] at i;rw[c,h,l] at a;rw[a] at g;obtain⟨q,m⟩:=xq (b*p);rw[m] at a g;have o:(b:Int)*(p:Int)=(q:Int):=by rw[<-m,kks]
  have hm0:(0:Int)<=(b:Int)*(p:Int):=by omega
  have hm1:(b:Int)*(p:Int)<18446744073709551616:=by omega
  have hs0:(0:Int)<=(y:Int)+(b:Int)*(p:Int):=by omega
  have hs1:(y:Int)+(b:Int)*(p:Int)<18446744073709551616:=by omega
  have t:=hid o;have s:=hid d;have A:=hid i;have r:=hid a;clear h l m c d i a g o;go_wp2_with fail;refine s.out.mono ?_;rintro e w1 ⟨rfl,rfl⟩;go_wp2_with fail;refine A.out.mono ?_;rintro e w2 ⟨rfl,rfl⟩;go_wp2;go_roundw
  case rel=>exact⟨j+1,by omega,by go_num,by rw[r.out,t.out];go_num,trivial⟩
  case measure=>simp[intOf];omega
 obtain rfl:j=n:=by omega
 have z:=hid c;clear c;go_wp2;go_ret;rw[z.out];exact⟨by go_num,rfl⟩
theorem qJ(x f n v:Nat)(w:World)(hx:x<18446744073709551616)(hv:v<18446744073709551616)(hi:f+n<=64):
 Calls prog 139 #[.int .u64 (x:Int),.int .i64 (f:Int),.int .i64 (n:Int),.int .u64 (v:Int)] w λe w'=>e=.returned (.int .u64 ((iP x f n v:Nat):Int))/\w'=w:=by
 have D:=hid hx;have H:=hid hv;clear hx hv;go_enter func139,ntmps139;go_wp2_with fail;go_loopw [0,9] (λu k wr=>∃j:Nat,j<=n/\k=.int .i64 j/\u=.int .u64 ((iP x f j v:Nat):Int)/\wr=w) (λ_ k _=>n-(intOf k).toNat)
 case atStart=>exact⟨0,kqy _,rfl,by rw[wK],rfl⟩
 obtain⟨j,hj,rfl,rfl,rfl⟩:=hrel;obtain⟨y,h⟩:=xq (iP x f j v);rw[h];have hy0:(0:Int)<=(y:Int):=by omega
 by_cases hlt:j<n
 .have ik1:(j:Int)<(n:Int):=by omega
  have d:=uv (v:=v) D.out (show f+j<=64 by omega);rw[h] at d;have t:=Gj y (f+j) wr d (by omega);have A:=BV (f+j) wr (by omega);have B:=Gj v j wr H.out (by omega);obtain⟨g,a⟩:=xG x f j v;have i:=uv (v:=v) D.out (show f+(j+1)<=64 by omega);rw[h] at g a;rw[g] at i;obtain⟨b,l⟩:=xq (y/2 ^ (f+j)%2);obtain⟨p,m⟩:=xq (2 ^ (f+j));obtain⟨c,s⟩:=xq (v/2 ^ j%2);rw[l,kjs] at t;rw[m,kjs] at A;rw[s] at B;rw[l,m,s] at g i;rw[l,m] at a;obtain⟨q,o⟩:=xq (b*p);obtain⟨r,z⟩:=xq (c*p);rw[o,z] at g i;rw[o] at a;have G:(b:Int)*(p:Int)=(q:Int):=by rw[<-o,kks]
  have M:(c:Int)*(p:Int)=(r:Int):=by rw[<-z,kks]
  have hm0:(0:Int)<=(b:Int)*(p:Int):=by omega
  have hm1:(b:Int)*(p:Int)<18446744073709551616:=by omega
  have hn0:(0:Int)<=(c:Int)*(p:Int):=by omega
  have hn1:(c:Int)*(p:Int)<18446744073709551616:=by omega
  have ht0:(0:Int)<=(y:Int)-(b:Int)*(p:Int):=by omega
  have ht1:(y:Int)-(b:Int)*(p:Int)<18446744073709551616:=by omega
  have hs0:(0:Int)<=(y:Int)-(b:Int)*(p:Int)+(c:Int)*(p:Int):=by omega
  have hs1:(y:Int)-(b:Int)*(p:Int)+(c:Int)*(p:Int)<18446744073709551616:=by omega
  have C:(((y-q+r:Nat):Int))=(y:Int)-(b:Int)*(p:Int)+(c:Int)*(p:Int):=by omega
  have K:=hid C;have I:=hid t;have E:=hid A;have F:=hid g;have J:=hid B;clear l m s o z h t A g a i B G M C d;go_wp2_with fail;refine I.out.mono ?_;rintro e w1 ⟨rfl,rfl⟩;go_wp2_with fail;refine E.out.mono ?_;rintro e w2 ⟨rfl,rfl⟩;go_wp2_with fail;refine J.out.mono ?_;rintro e w3 ⟨rfl,rfl⟩;go_wp2_with fail;refine E.out.mono ?_;rintro e w4 ⟨rfl,rfl⟩;go_wp2;go_roundw
  case rel=>exact⟨j+1,by omega,by go_num,by rw[F.out,K.out],trivial⟩
  case measure=>simp[intOf];omega
 obtain rfl:j=n:=by omega
 have L:=hid h;clear h;go_wp2;go_ret;rw[L.out];exact⟨by go_num,rfl⟩
theorem xz(x:Nat)(w:World)(hx:x<18446744073709551616):
 Calls prog 249 #[.int .u64 (x:Int)] w λe w'=>e=.returned (.agg (bT x 8))/\Below w.heap.size w w':=by
 have hzv:=Cf;have C:=hid hx;clear hx;go_enter func249,ntmps249;go_wp2_with fail;go_loopw [0,4] (λv i wr=>∃k:Nat,k<=8/\i=.int .i64 k/\v=.int .u64 ((x/256 ^ k:Nat):Int)/\Bx wr w.heap.size 308 gR/\Bx wr (w.heap.size+1) 308 (bT x k)/\Below w.heap.size w wr) (λ_ i _=>8-(intOf i).toNat)
 case atStart =>
  refine⟨0,kqy _,rfl,by simp,(Bx.new w _ _).alloc _,?_,((kql _ _).alloc (kqd _) _).alloc (by simp) _⟩;have:=Bx.new (w.alloc (.cells gR 308)) 308 gR;rw[kqm] at this;rw[<-uW];exact this
 obtain⟨k,hk,rfl,rfl,j,f,r⟩:=hrel;have hz:=r.size;by_cases h:k<8
 .have A:=f.cell k;rw[eM _ _ _ h] at A;have hf:=f.frozen k;have z:=hid (nA x k h);have a:=hid f;have s:=hid j;have ik0:(0:Int)<=(k:Int):=by omega
  have ik1:(k:Int)<8:=by omega
  obtain⟨y,b⟩:=xq (x/256 ^ k);have q:Hid (y<18446744073709551616):=hid (by rw[<-b];exact kkc (kku _ _) C.out);have t:Hid (iV x k=y%256):=hid (by rw[<-b];rfl);have B:Hid (x/256 ^ (k+1)=y/256):=hid (by rw[<-b,kji,kxd]);have hy0:(0:Int)<=(y:Int):=by omega
  have hy1:(y:Int)/256<18446744073709551616:=by have:=q.out;omega
  have hy2:(0:Int)<=(y:Int)/256:=by omega
  rw[b];clear j f b;go_wp2_with fail;refine⟨⟨k+1,by omega,by go_num,by rw[B.out];go_num,s.out.far (p:=⟨w.heap.size+1,k,none⟩) (by dsimp only;omega) _,?_,r.setCell (p:=⟨w.heap.size+1,k,none⟩) (by dsimp only;omega) _⟩,by simp[intOf];omega⟩;rw[<-z.out,t.out];exact a.out.set_ k _
 obtain rfl:k=8:=by omega
 have n:(prog.info? 308).map (·.size)=some (bT x 8).size:=by rw[bj];exact H6
 have g:=jV x 8;have d:=jC j;rw[show gR.size=(bT x 8).size by rw[bj];simp[gR]] at d;have l:=hid (fA j (cs:=bT x 8) (by rw[bj];simp[gR]));have a:=hid f;have m:=hid (aU (kqd _) (bT x 8).toList (o:=0) r);clear j f;obtain⟨cs,c⟩:=xq (bT x 8);have u:=hid c;rw[c] at n g d l a m;obtain⟨y,b⟩:=xq (x/256 ^ 8);rw[b];clear c b;go_wp2_with (first
  | (refine kxf rfl _ _ rfl (w.heap.size+1) (by rfl) 308 cs (0,0) _ a.out underlying308 (by rfl) n ?_)
  | (refine kjo rfl _ _ _ rfl w.heap.size 0 cs (by rfl) (by rfl) d n g ?_))
 exact kqr (v:=.agg cs) (results_cell_row rfl _ _ w.heap.size _ cs (0,0) _ (by rfl) l.out underlying308 (by rfl) n) rfl ⟨by rw[u.out],m.out⟩
theorem CG(s b:Nat)(hb:b<256):E8 s b=(s-s%256+((s%256) ^^^ b))*1099511628211%18446744073709551616:=by rw[F6 s b hb];rfl
theorem wl(s b:Nat)(hb:b<256):(s%256) ^^^ b<256:=Nat.xor_lt_two_pow (n:=8) (kz0 _ (by omega)) hb
theorem step_c(s b:Nat)(w:World)(hs:s<18446744073709551616)(hb:b<256):
 Calls prog 250 #[.int .u64 (s:Int),.int .u8 (b:Int)] w λe w'=>e=.returned (.int .u64 ((E8 s b:Nat):Int))/\w'=w:=by
 have c:=hid (CG s b hb);have g:=wl s b hb;have a:=u8_xor_nat (s%256) b (kz0 _ (by omega)) hb;rw[Int.natCast_emod] at a;obtain⟨q,d⟩:=xq ((s%256) ^^^ b);rw[d] at c g a;have hx':bits .xor .u8 ((s:Int)%256) (b:Int)=(q:Int):=a;have hs0:(0:Int)<=(s:Int):=by omega
 have ht0:(0:Int)<=(s:Int)-(s:Int)%256:=by omega
 have ht1:(s:Int)-(s:Int)%256<18446744073709551616:=by omega
 have hu0:(0:Int)<=(s:Int)-(s:Int)%256+(q:Int):=by omega
 have hu1:(s:Int)-(s:Int)%256+(q:Int)<18446744073709551616:=by omega
 have f:Hid ((s:Int)-(s:Int)%256+(q:Int)=((s-s%256+q:Nat):Int)):=hid (by omega);clear hs hb d a;go_enter func250,ntmps250;go_wp2;go_ret;refine⟨?_,rfl⟩;rw[c.out,<-lN,kks,<-f.out];rfl
theorem uC(s:Nat)(A:Option Addr)(l:List Nat)(c n:Nat)(w:World)(hn:l.length=n)(hm:n<=2048)(hs:s<18446744073709551616)(C:RdW w w.heap.size A l)(ho:∀x∈l,x<18446744073709551616):
 Calls prog 199 #[.int .u64 (s:Int),.slice A n c] w λe w'=>e=.returned (.int .u64 (aS s l:Nat))/\Below w.heap.size w w':=by
 subst hn;have HR:=hid C;have HO:=hid ho;have HS:=hid hs;have hzv:=Cf;clear C ho hs;obtain⟨i0,B,u,a,I⟩:=kzv kT;have HI:=hid B;have HZ0:=hid u;have HZ1:=hid a;have HZ2:=hid I;clear B u a I;go_enter func199,ntmps199;go_wp2_with fail;go_loopw [0,5] (λO i wr=>∃k:Nat,k<=l.length/\i=.int .i64 k/\O=.int .u64 (aS s (l.take k):Nat)/\Below w.heap.size w wr) (λ_ i _=>l.length-(intOf i).toNat)
 case atStart=>exact⟨0,kqy _,rfl,rfl,kql _ _⟩
 obtain⟨k,hk,rfl,rfl,J⟩:=hrel;have hz:=J.size;by_cases f:k<l.length
 .obtain ⟨b,S,rfl,hb,L⟩:=RdW.at_ HR.out f;replace L:=(J.cell (p:=⟨b,S+k,none⟩) hb).trans L;have X:=hid (HO.out l[k] (kqp f));have P:=hid (lQ f s);obtain⟨x,W⟩:=xq (l[k]);rw[W] at L X P;have U:=hid (gP HS.out (l.take k));obtain⟨q,Z⟩:=xq (aS s (l.take k));rw[Z] at P U |-;clear W Z;have ik1:(0:Int)<=(k:Int):=by omega
  have ik2:(k:Int)<(l.length:Int):=by omega
  go_wp2_with fail;refine (xz x _ X.out).mono ?_;rintro e R ⟨rfl,Q⟩;have F:=J.trans (Q.mono hz);have a:=F.size;have N:=Bx.new R 308 gR;have B:(prog.info? 308).map (·.size)=some (bT x 8).size:=by rw[bj];exact H6
  have v:=jV x 8;have h:=jC N;rw[show gR.size=(bT x 8).size by rw[bj];simp[gR]] at h;have D:=hid (fA N (cs:=bT x 8) (by rw[bj];simp[gR]));have E:=hid (aU a (bT x 8).toList (o:=0) (F.alloc a (.cells gR 308)));clear N;obtain⟨cs,g⟩:=xq (bT x 8);have M:=hid g;rw[g] at B v h D E |-;clear g;go_wp2_with (refine kjo rfl _ _ _ rfl R.heap.size 0 cs (by rfl) (by rfl) h B v ?_);go_loopw [0,7] (λO i wr=>∃j:Nat,j<=8/\i=.int .i64 j/\O=.int .u64 (yC q x j:Nat)/\Bx wr R.heap.size 308 cs/\Below w.heap.size w wr) (λ_ i _=>8-(intOf i).toNat)
  case atStart=>exact⟨0,kqy _,rfl,rfl,D.out,E.out⟩
  obtain⟨j,hj,rfl,rfl,m,G⟩:=hrel;by_cases H:j<8
  .have T:=m.cell j;rw[<-M.out,eM x 8 j H,if_pos H] at T;have hf:=m.frozen j;have hlb:=m.lt;have K:=hid m;have z:=rV x j;have t:=hid (sA U.out x j);have d:Hid (yC q x (j+1)=E8 (yC q x j) (iV x j)):=hid rfl;obtain⟨p,Y⟩:=xq (yC q x j);obtain⟨y,V⟩:=xq (iV x j);rw[Y] at t d |-;rw[V] at z T d;have ij0:(0:Int)<=(j:Int):=by omega
   have ij1:(j:Int)<8:=by omega
   clear Y V m;go_wp2_with fail;refine (step_c p y _ t.out z).mono ?_;rintro e w2 ⟨rfl,rfl⟩;obtain⟨r,C⟩:=xq (E8 p y);rw[C] at d |-;clear C;go_wp2_with fail;refine⟨⟨j+1,by omega,by go_num,by rw[d.out],K.out,G⟩,by simp[intOf];omega⟩
  obtain rfl:j=8:=by omega
  clear m;go_wp2;go_roundw
  case rel=>exact⟨k+1,by omega,by go_num,by rw[P.out];rfl,G⟩
  case measure=>simp[intOf];omega
 obtain rfl:k=l.length:=by omega
 rw[kzn];go_wp2;go_ret;exact⟨rfl,J⟩
theorem sum_c(A:Option Addr)(l:List Nat)(c n:Nat)(w:World)(hn:l.length=n)(hm:n<=2048)(hr:RdW w w.heap.size A l)(ho:∀x∈l,x<18446744073709551616):
 Calls prog 138 #[.slice A n c] w λe w'=>e=.returned (.int .u64 (aS 14695981039346656037 l:Nat))/\Below w.heap.size w w':=by have h:=hid hr;have g:=hid ho;have f:=hid hn;clear hr ho hn;go_enter func138,ntmps138;go_wp2_with fail;refine (uC 14695981039346656037 A l c n w f.out hm (by omega) h.out g.out).mono ?_;rintro e w1 ⟨rfl,a⟩;obtain⟨q,d⟩:=xq (aS 14695981039346656037 l);have b:=hid d;rw[d];clear d;go_wp2;go_ret;exact⟨by rw[b.out];rfl,a⟩
theorem ut(A:Option Addr)(l:List Nat)(c n:Nat)(w:World)(hn:l.length=n)(hm:n<=2048)(a:RdW w w.heap.size A l)(ho:∀x∈l,x<18446744073709551616):
 Calls prog 140 #[.slice A n c,.int .i64 32] w λe w'=>e=.returned (.int .u64 ((aS 14695981039346656037 l%4294967296:Nat):Int))/\Below w.heap.size w w':=by have m:=hid a;have k:=hid ho;have i:=hid hn;clear a ho hn;go_enter func140,ntmps140;go_wp2_with fail;refine (sum_c A l c n w i.out hm m.out k.out).mono ?_;rintro e j ⟨rfl,d⟩;have b:=hid (gP (s:=14695981039346656037) (by omega) l);obtain⟨q,h⟩:=xq (aS 14695981039346656037 l);have f:=hid h;rw[h] at b |-;clear h;go_wp2_with fail;refine (jo q 0 32 j b.out (by omega)).mono ?_;rintro e w2 ⟨rfl,rfl⟩;obtain⟨r,a⟩:=xq (bB q 0 32);have g:=hid a;rw[a];clear a;go_wp2;go_ret;exact⟨by rw[f.out,<-g.out];simp[bB],d⟩
theorem iZ(hw:w<2 ^ f)(hv:v<2 ^ n):iP w f n v=w+v*2 ^ f:=by unfold iP bB;rw[Nat.div_eq_of_lt hw,Nat.zero_mod,kvn,Nat.sub_zero,Nat.mod_eq_of_lt hv]
theorem nc(K T S:Nat)(m:Bool)(w:World)(h1:K<256)(h2:T<128)(h3:S<65536):
 Calls prog 90 #[.int .i64 (K:Int),.bool m,.int .i64 (T:Int),.int .i64 (S:Int)] w λe w'=>e=.returned (.int .u64 ((K+nQ m*256+T*512+S*65536+gM (K+nQ m*256+T*512+S*65536)%4294967296*4294967296:Nat):Int))/\Below w.heap.size w w':=by
 obtain⟨M,t⟩:=xq (nQ m);have hM1:M<2:=by rw[<-t];cases m<;>simp[nQ]
 have F:=hid (λW=>qJ 0 0 8 K W (by omega) (by omega) (by omega));have C:=iZ (w:=0) (f:=0) (n:=8) (v:=K) (by omega) (by omega);have J:=iZ (w:=K) (f:=8) (n:=1) (v:=1) (by omega) (by omega);have N:=iZ (w:=K+M*256) (f:=9) (n:=7) (v:=T) (by omega) (by omega);have I:=iZ (w:=K+M*256+T*512) (f:=16) (n:=16) (v:=S) (by omega) (by omega);have d:K+M*256+T*512+S*65536<4294967296:=by omega
 have q:=hid (kz0 (gM (K+M*256+T*512+S*65536)) (show 4294967296 > 0 by omega));have E:=hid (λW=>qJ K 8 1 1 W (by omega) (by omega) (by omega));have o:=hid (λW=>qJ (K+M*256) 9 7 T W (by omega) (by omega) (by omega));have i:=hid (λW=>qJ (K+M*256+T*512) 16 16 S W (by omega) (by omega) (by omega));rw[show 0+K*2 ^ 0=K by omega] at C;rw[C] at F;rw[J] at E;rw[N] at o;rw[I] at i;have H:=iZ (w:=K+M*256+T*512+S*65536) (f:=32) (n:=32) (v:=gM (K+M*256+T*512+S*65536)%4294967296) (by omega) q.out;have l:=hid (λW=>qJ (K+M*256+T*512+S*65536) 32 32 (gM (K+M*256+T*512+S*65536)%4294967296) W (by omega) (by have:=q.out;omega) (by omega));rw[H] at l;rw[t];have u:K+1*2 ^ 8=K+256:=by omega
 have z:K+M*256+T*2 ^ 9=K+M*256+T*512:=by omega
 have x:K+M*256+T*512+S*2 ^ 16=K+M*256+T*512+S*65536:=by omega
 rw[u] at E;rw[z] at o;rw[x] at i;clear C J N I H u z x;obtain⟨r,B⟩:=xq (K+M*256);rw[B] at o i l d q |-;obtain⟨G,p⟩:=xq (r+T*512);rw[p] at o i l d q |-;obtain⟨c,A⟩:=xq (G+S*65536);rw[A] at i l d q |-;have k:Hid (m=true->K+256=r):=hid (λh=>by subst h;simp[nQ] at t;omega);have g:Hid (m=false->K=r):=hid (λh=>by subst h;simp[nQ] at t;omega);clear B p A t;cases m
 .obtain rfl:=g.out rfl;clear g k;go_enter func90,ntmps90;go_wp2_with fail;refine (F.out _).mono ?_;rintro e L ⟨rfl,rfl⟩;go_wp2_with fail;refine (o.out _).mono ?_;rintro e O ⟨rfl,rfl⟩;go_wp2_with fail;refine (i.out _).mono ?_;rintro e D ⟨rfl,rfl⟩;go_wp2_with fail;have b:=mW D [.int .u64 (c:Int)] 53;refine (ut _ [c] _ 1 _ rfl (by omega) (by rw[kqm];exact b) (by intro y s;simp at s;subst s;omega)).mono ?_;rintro e Q ⟨rfl,a⟩;rw[kqm] at a;have j:=av a;rw[show aS 14695981039346656037 [c]=gM c from rfl];clear a b;go_wp2_with fail;refine (l.out _).mono ?_;rintro e P ⟨rfl,rfl⟩;go_wp2;go_ret;exact⟨rfl,j⟩
 obtain rfl:=k.out rfl;clear g k;go_enter func90,ntmps90;go_wp2_with fail;refine (F.out _).mono ?_;rintro e L ⟨rfl,rfl⟩;go_wp2_with fail;refine (E.out _).mono ?_;rintro e L ⟨rfl,rfl⟩;go_wp2_with fail;refine (o.out _).mono ?_;rintro e O ⟨rfl,rfl⟩;go_wp2_with fail;refine (i.out _).mono ?_;rintro e D ⟨rfl,rfl⟩;go_wp2_with fail;have b:=mW D [.int .u64 (c:Int)] 53;refine (ut _ [c] _ 1 _ rfl (by omega) (by rw[kqm];exact b) (by intro y s;simp at s;subst s;omega)).mono ?_;rintro e Q ⟨rfl,a⟩;rw[kqm] at a;have j:=av a;rw[show aS 14695981039346656037 [c]=gM c from rfl];clear a b;go_wp2_with fail;refine (l.out _).mono ?_;rintro e P ⟨rfl,rfl⟩;go_wp2;go_ret;exact⟨rfl,j⟩
end Go.Proofs.YtpcajamacpbjcaaGreat
