/- Texts laid together: Ref01 Ref05 Ref14W. -/
import Derived.Test.YtpcajamacpbjcaaGreatZKHead
set_option maxHeartbeats 16000000
set_option maxRecDepth 100000
set_option linter.all false
namespace Go.Proofs.YtpcajamacpbjcaaGreat
open Lib (hid)
open Go.RowKit
variable {f n v w:Nat}
open Go.Proofs.Tryz
def bD (w f n:Nat):Nat:=w/2 ^ f%2 ^ n
def ig (w f n v:Nat):Nat:=w-bD w f n*2 ^ f+v%2 ^ n*2 ^ f
theorem lE(w f n:Nat):bD w f (n+1)=bD w f n+w/2 ^ (f+n)%2*2 ^ n:=by unfold bD;rw[kju,Nat.mod_mul,kxb,<-kjx,kjm (2 ^ n)]
theorem wg(w f n:Nat):bD w f n<2 ^ n:=kz1 _ (kvf (by omega))
theorem nL(w f n:Nat):bD w f n*2 ^ f<=w:=by have a:bD w f n<=w/2 ^ f:=Nat.mod_le _ _;exact kzv (kx2 _ a) (Nat.div_mul_le_self _ _)
theorem vM(w f v:Nat):ig w f 0 v=w:=by simp[ig,bD,Nat.mod_one]
theorem qj(w f n v:Nat):ig w f n v/2 ^ (f+n)=w/2 ^ (f+n):=by
 have b:0<2 ^ (f+n):=kvf (by omega);have h1:w=w/2 ^ (f+n)*2 ^ (f+n)+(bD w f n*2 ^ f+w%2 ^ f):=by
  have e1:=kk7 w (2 ^ f);have a:=kk7 (w/2 ^ f) (2 ^ n);rw[kxb,<-kjx] at a;unfold bD;have d:2 ^ f*(w/2 ^ f)=2 ^ f*(2 ^ n*(w/2 ^ (f+n))+w/2 ^ f%2 ^ n):=by rw[a]
  rw[Nat.mul_add,<-kve,<-kjx] at d;rw[kjm (w/2 ^ (f+n)),kjm (w/2 ^ f%2 ^ n)];omega
 have c:ig w f n v=w/2 ^ (f+n)*2 ^ (f+n)+(v%2 ^ n*2 ^ f+w%2 ^ f):=by unfold ig;omega
 have g:v%2 ^ n*2 ^ f+w%2 ^ f<2 ^ (f+n):=by have e:v%2 ^ n+1<=2 ^ n:=kz1 _ (kvf (by omega));have a2:w%2 ^ f<2 ^ f:=kz1 _ (kvf (by omega));have h:(v%2 ^ n+1)*2 ^ f<=2 ^ n*2 ^ f:=kx2 _ e;rw[kjx,kjm (2 ^ f)];rw[kjq] at h;omega
 rw[c,kjm,Nat.mul_add_div b,Nat.div_eq_of_lt g,kz6]
theorem vy(w f n v:Nat):ig w f (n+1) v=ig w f n v-ig w f n v/2 ^ (f+n)%2*2 ^ (f+n)+v/2 ^ n%2*2 ^ (f+n)/\ig w f n v/2 ^ (f+n)%2*2 ^ (f+n)<=ig w f n v:=by
 have a:ig w f n v/2 ^ (f+n)%2*2 ^ (f+n)<=ig w f n v:=kzv (kx2 _ (Nat.mod_le _ _)) (Nat.div_mul_le_self _ _);refine⟨?_,a⟩;rw[qj] at a |-;have b:=lE w f n;have d:v%2 ^ (n+1)=v%2 ^ n+v/2 ^ n%2*2 ^ n:=by rw[kju,Nat.mod_mul,kjm (2 ^ n)]
 have c:=nL w f (n+1);have e4:=nL w f n;unfold ig at a |-;rw[b,kjq,kve (w/2 ^ (f+n)%2),<-kjx,kxs n f] at c |-;rw[d,kjq,kve (v/2 ^ n%2),<-kjx,kxs n f];omega
theorem tW(hw:w<18446744073709551616)(h:f+n<=64):ig w f n v<18446744073709551616:=by
 have a:0<2 ^ (f+n):=kvf (by omega);have e:18446744073709551616=2 ^ (64-(f+n))*2 ^ (f+n):=by rw[<-kjx,show 64-(f+n)+(f+n)=64 by omega]
 rw[e,<-Nat.div_lt_iff_lt_mul a] at hw |-;rw[qj];exact hw
theorem qI(h:f+n<=64):bD w f n<18446744073709551616:=
 kxi (wg w f n) (show 2 ^ n<=2 ^ 64 from kjk (by omega) (by omega))
theorem Dh(x i:Nat)(w:World)(hx:x<18446744073709551616)(hi:i<=64):
 Calls prog 200 #[.int .u64 (x:Int),.int .i64 (i:Int)] w λe w'=>e=.returned (.int .u64 ((x/2 ^ i%2:Nat):Int))/\w'=w:=by
 have f:=hid hx;clear hx;go_enter func200,ntmps200;go_wp2_with fail;go_loopw [0,5] (λv k wr=>∃j:Nat,j<=i/\k=.int .i64 j/\v=.int .u64 ((x/2 ^ j:Nat):Int)/\wr=w) (λ_ k _=>i-(intOf k).toNat)
 case atStart=>exact⟨0,kqx _,rfl,by simp,rfl⟩
 obtain⟨j,hj,rfl,rfl,rfl⟩:=hrel;obtain⟨y,a⟩:=xq (x/2 ^ j);rw[a];have hy0:(0:Int)<=(y:Int):=by omega
 have c:=hid a;have b:=hid (show y<18446744073709551616 by rw[<-a];exact kji (kjz _ _) f.out);clear a;by_cases hlt:j<i
 .have ik1:(j:Int)<(i:Int):=by omega
  have hy1:(y:Int)/2<18446744073709551616:=by have:=b.out;omega
  have hy2:(0:Int)<=(y:Int)/2:=by omega
  have d:Hid (x/2 ^ (j+1)=y/2):=hid (by rw[<-c.out,kju,kxb]);go_wp2;go_roundw
  case rel=>exact⟨j+1,by omega,by go_num,by rw[d.out];go_num,trivial⟩
  case measure=>simp[intOf];omega
 obtain rfl:j=i:=by omega
 go_wp2;go_ret;rw[c.out];exact⟨by go_num,rfl⟩
theorem xE(i:Nat)(w:World)(hi:i<64):
 Calls prog 201 #[.int .i64 (i:Int)] w λe w'=>e=.returned (.int .u64 ((2 ^ i:Nat):Int))/\w'=w:=by
 go_enter func201,ntmps201;go_wp2_with fail;go_loopw [3,4] (λv k wr=>∃j:Nat,j<=i/\k=.int .i64 j/\v=.int .u64 ((2 ^ j:Nat):Int)/\wr=w) (λ_ k _=>i-(intOf k).toNat)
 case atStart=>exact⟨0,kqx _,rfl,rfl,rfl⟩
 obtain⟨j,hj,rfl,rfl,rfl⟩:=hrel;obtain⟨y,a⟩:=xq (2 ^ j);rw[a];have hy0:(0:Int)<=(y:Int):=by omega
 have b:=hid a;by_cases hlt:j<i
 .have ik1:(j:Int)<(i:Int):=by omega
  have hy1:(y:Int)*2<18446744073709551616:=by have d:2 ^ (j+1)<=2 ^ 63:=kjk (by omega) (by omega);rw[kju,a] at d;omega
  have c:Hid (2 ^ (j+1)=y*2):=hid (by rw[<-b.out,kju]);clear a;go_wp2;go_roundw
  case rel=>exact⟨j+1,by omega,by go_num,by rw[c.out];go_num,trivial⟩
  case measure=>simp[intOf];omega
 obtain rfl:j=i:=by omega
 clear a;go_wp2;go_ret;rw[b.out];exact⟨by go_num,rfl⟩
theorem jg(x f n:Nat)(w:World)(hx:x<18446744073709551616)(hi:f+n<=64):
 Calls prog 202 #[.int .u64 (x:Int),.int .i64 (f:Int),.int .i64 (n:Int)] w λe w'=>e=.returned (.int .u64 ((bD x f n:Nat):Int))/\w'=w:=by
 have u:=hid hx;clear hx;go_enter func202,ntmps202;go_wp2_with fail;go_loopw [7,8] (λv k wr=>∃j:Nat,j<=n/\k=.int .i64 j/\v=.int .u64 ((bD x f j:Nat):Int)/\wr=w) (λ_ k _=>n-(intOf k).toNat)
 case atStart=>exact⟨0,kqx _,rfl,by simp[bD,Nat.mod_one],rfl⟩
 obtain⟨j,hj,rfl,rfl,rfl⟩:=hrel;obtain⟨y,a⟩:=xq (bD x f j);rw[a];have hy0:(0:Int)<=(y:Int):=by omega
 by_cases hlt:j<n
 .have ik1:(j:Int)<(n:Int):=by omega
  have l:=Dh x (f+j) wr u.out (by omega);have i:=xE j wr (by omega);have c:=lE x f j;have g:=qI (w:=x) (f:=f) (n:=j+1) (by omega);obtain⟨b,h⟩:=xq (x/2 ^ (f+j)%2);obtain⟨p,d⟩:=xq (2 ^ j);rw[h,kx1] at l;rw[d] at i;rw[a,h,d] at c;rw[c] at g;obtain⟨q,m⟩:=xq (b*p);rw[m] at c g;have o:(b:Int)*(p:Int)=(q:Int):=by rw[<-m,kka]
  have hm0:(0:Int)<=(b:Int)*(p:Int):=by omega
  have hm1:(b:Int)*(p:Int)<18446744073709551616:=by omega
  have hs0:(0:Int)<=(y:Int)+(b:Int)*(p:Int):=by omega
  have hs1:(y:Int)+(b:Int)*(p:Int)<18446744073709551616:=by omega
  have r:=hid o;have t:=hid l;have A:=hid i;have z:=hid c;clear h d m a l i c g o;go_wp2_with fail;refine t.out.mono ?_;rintro e w1 ⟨rfl,rfl⟩;go_wp2_with fail;refine A.out.mono ?_;rintro e w2 ⟨rfl,rfl⟩;go_wp2;go_roundw
  case rel=>exact⟨j+1,by omega,by go_num,by rw[z.out,r.out];go_num,trivial⟩
  case measure=>simp[intOf];omega
 obtain rfl:j=n:=by omega
 have s:=hid a;clear a;go_wp2;go_ret;rw[s.out];exact⟨by go_num,rfl⟩
theorem pY(x f n v:Nat)(w:World)(hx:x<18446744073709551616)(hv:v<18446744073709551616)(hi:f+n<=64):
 Calls prog 139 #[.int .u64 (x:Int),.int .i64 (f:Int),.int .i64 (n:Int),.int .u64 (v:Int)] w λe w'=>e=.returned (.int .u64 ((ig x f n v:Nat):Int))/\w'=w:=by
 have C:=hid hx;have M:=hid hv;clear hx hv;go_enter func139,ntmps139;go_wp2_with fail;go_loopw [0,9] (λu k wr=>∃j:Nat,j<=n/\k=.int .i64 j/\u=.int .u64 ((ig x f j v:Nat):Int)/\wr=w) (λ_ k _=>n-(intOf k).toNat)
 case atStart=>exact⟨0,kqx _,rfl,by rw[vM],rfl⟩
 obtain⟨j,hj,rfl,rfl,rfl⟩:=hrel;obtain⟨y,g⟩:=xq (ig x f j v);rw[g];have hy0:(0:Int)<=(y:Int):=by omega
 by_cases hlt:j<n
 .have ik1:(j:Int)<(n:Int):=by omega
  have d:=tW (v:=v) C.out (show f+j<=64 by omega);rw[g] at d;have B:=Dh y (f+j) wr d (by omega);have t:=xE (f+j) wr (by omega);have z:=Dh v j wr M.out (by omega);obtain⟨h,a⟩:=vy x f j v;have l:=tW (v:=v) C.out (show f+(j+1)<=64 by omega);rw[g] at h a;rw[h] at l;obtain⟨b,m⟩:=xq (y/2 ^ (f+j)%2);obtain⟨p,i⟩:=xq (2 ^ (f+j));obtain⟨c,A⟩:=xq (v/2 ^ j%2);rw[m,kx1] at B;rw[i,kx1] at t;rw[A] at z;rw[m,i,A] at h l;rw[m,i] at a;obtain⟨q,o⟩:=xq (b*p);obtain⟨r,s⟩:=xq (c*p);rw[o,s] at h l;rw[o] at a;have J:(b:Int)*(p:Int)=(q:Int):=by rw[<-o,kka]
  have L:(c:Int)*(p:Int)=(r:Int):=by rw[<-s,kka]
  have hm0:(0:Int)<=(b:Int)*(p:Int):=by omega
  have hm1:(b:Int)*(p:Int)<18446744073709551616:=by omega
  have hn0:(0:Int)<=(c:Int)*(p:Int):=by omega
  have hn1:(c:Int)*(p:Int)<18446744073709551616:=by omega
  have ht0:(0:Int)<=(y:Int)-(b:Int)*(p:Int):=by omega
  have ht1:(y:Int)-(b:Int)*(p:Int)<18446744073709551616:=by omega
  have hs0:(0:Int)<=(y:Int)-(b:Int)*(p:Int)+(c:Int)*(p:Int):=by omega
  have hs1:(y:Int)-(b:Int)*(p:Int)+(c:Int)*(p:Int)<18446744073709551616:=by omega
  have D:(((y-q+r:Nat):Int))=(y:Int)-(b:Int)*(p:Int)+(c:Int)*(p:Int):=by omega
  have G:=hid D;have H:=hid B;have E:=hid t;have K:=hid h;have I:=hid z;clear m i A o s g B t h a l z J L D d;go_wp2_with fail;refine H.out.mono ?_;rintro e w1 ⟨rfl,rfl⟩;go_wp2_with fail;refine E.out.mono ?_;rintro e w2 ⟨rfl,rfl⟩;go_wp2_with fail;refine I.out.mono ?_;rintro e w3 ⟨rfl,rfl⟩;go_wp2_with fail;refine E.out.mono ?_;rintro e w4 ⟨rfl,rfl⟩;go_wp2;go_roundw
  case rel=>exact⟨j+1,by omega,by go_num,by rw[K.out,G.out],trivial⟩
  case measure=>simp[intOf];omega
 obtain rfl:j=n:=by omega
 have F:=hid g;clear g;go_wp2;go_ret;rw[F.out];exact⟨by go_num,rfl⟩
theorem uA(x:Nat)(w:World)(hx:x<18446744073709551616):
 Calls prog 249 #[.int .u64 (x:Int)] w λe w'=>e=.returned (.agg (bT x 8))/\Below w.heap.size w w':=by
 have hzv:=zY;have C:=hid hx;clear hx;go_enter func249,ntmps249;go_wp2_with fail;go_loopw [0,4] (λv i wr=>∃k:Nat,k<=8/\i=.int .i64 k/\v=.int .u64 ((x/256 ^ k:Nat):Int)/\Bx wr w.heap.size 308 gN/\Bx wr (w.heap.size+1) 308 (bT x k)/\Below w.heap.size w wr) (λ_ i _=>8-(intOf i).toNat)
 case atStart =>
  refine⟨0,kqx _,rfl,by simp,(Bx.new w _ _).alloc _,?_,((kqk _ _).alloc (kqb _) _).alloc (by simp) _⟩;have:=Bx.new (w.alloc (.cells gN 308)) 308 gN;rw[kqn] at this;rw[<-tQ];exact this
 obtain⟨k,hk,rfl,rfl,g,f,r⟩:=hrel;have hz:=r.size;by_cases h:k<8
 .have B:=f.cell k;rw[ep _ _ _ h] at B;have hf:=f.frozen k;have q:=hid (mn x k h);have a:=hid f;have t:=hid g;have ik0:(0:Int)<=(k:Int):=by omega
  have ik1:(k:Int)<8:=by omega
  obtain⟨y,b⟩:=xq (x/256 ^ k);have z:Hid (y<18446744073709551616):=hid (by rw[<-b];exact kji (kjz _ _) C.out);have s:Hid (iC x k=y%256):=hid (by rw[<-b];rfl);have A:Hid (x/256 ^ (k+1)=y/256):=hid (by rw[<-b,kju,kxb]);have hy0:(0:Int)<=(y:Int):=by omega
  have hy1:(y:Int)/256<18446744073709551616:=by have:=z.out;omega
  have hy2:(0:Int)<=(y:Int)/256:=by omega
  rw[b];clear g f b;go_wp2_with fail;refine⟨⟨k+1,by omega,by go_num,by rw[A.out];go_num,t.out.far (p:=⟨w.heap.size+1,k,none⟩) (by dsimp only;omega) _,?_,r.setCell (p:=⟨w.heap.size+1,k,none⟩) (by dsimp only;omega) _⟩,by simp[intOf];omega⟩;rw[<-q.out,s.out];exact a.out.set_ k _
 obtain rfl:k=8:=by omega
 have n:(prog.info? 308).map (·.size)=some (bT x 8).size:=by rw[bu];exact Dx
 have l:=jM x 8;have c:=kk g;rw[show gN.size=(bT x 8).size by rw[bu];simp[gN]] at c;have m:=hid (fE g (cs:=bT x 8) (by rw[bu];simp[gN]));have a:=hid f;have j:=hid (cP (kqb _) (bT x 8).toList (o:=0) r);clear g f;obtain⟨cs,d⟩:=xq (bT x 8);have u:=hid d;rw[d] at n l c m a j;obtain⟨y,b⟩:=xq (x/256 ^ 8);rw[b];clear d b;go_wp2_with (first
  | (refine kxg rfl _ _ rfl (w.heap.size+1) (by rfl) 308 cs (0,0) _ a.out underlying308 (by rfl) n ?_)
  | (refine kkj rfl _ _ _ rfl w.heap.size 0 cs (by rfl) (by rfl) c n l ?_))
 exact kqr (v:=.agg cs) (results_cell_row rfl _ _ w.heap.size _ cs (0,0) _ (by rfl) m.out underlying308 (by rfl) n) rfl ⟨by rw[u.out],j.out⟩
theorem By(s b:Nat)(hb:b<256):C4 s b=(s-s%256+((s%256) ^^^ b))*1099511628211%18446744073709551616:=by rw[DF s b hb];rfl
theorem vI(s b:Nat)(hb:b<256):(s%256) ^^^ b<256:=Nat.xor_lt_two_pow (n:=8) (kz1 _ (by omega)) hb
theorem step_c(s b:Nat)(w:World)(hs:s<18446744073709551616)(hb:b<256):
 Calls prog 250 #[.int .u64 (s:Int),.int .u8 (b:Int)] w λe w'=>e=.returned (.int .u64 ((C4 s b:Nat):Int))/\w'=w:=by
 have c:=hid (By s b hb);have f:=vI s b hb;have a:=u8_xor_nat (s%256) b (kz1 _ (by omega)) hb;rw[Int.natCast_emod] at a;obtain⟨q,d⟩:=xq ((s%256) ^^^ b);rw[d] at c f a;have hx':bits .xor .u8 ((s:Int)%256) (b:Int)=(q:Int):=a;have hs0:(0:Int)<=(s:Int):=by omega
 have ht0:(0:Int)<=(s:Int)-(s:Int)%256:=by omega
 have ht1:(s:Int)-(s:Int)%256<18446744073709551616:=by omega
 have hu0:(0:Int)<=(s:Int)-(s:Int)%256+(q:Int):=by omega
 have hu1:(s:Int)-(s:Int)%256+(q:Int)<18446744073709551616:=by omega
 have g:Hid ((s:Int)-(s:Int)%256+(q:Int)=((s-s%256+q:Nat):Int)):=hid (by omega);clear hs hb d a;go_enter func250,ntmps250;go_wp2;go_ret;refine⟨?_,rfl⟩;rw[c.out,<-lB,kka,<-g.out];rfl
theorem sE(s:Nat)(A:Option Addr)(l:List Nat)(c n:Nat)(w:World)(hn:l.length=n)(hm:n<=2048)(hs:s<18446744073709551616)(z:RdW w w.heap.size A l)(ho:∀x∈l,x<18446744073709551616):
 Calls prog 199 #[.int .u64 (s:Int),.slice A n c] w λe w'=>e=.returned (.int .u64 (bt s l:Nat))/\Below w.heap.size w w':=by
 subst hn;have HR:=hid z;have HO:=hid ho;have HS:=hid hs;have hzv:=zY;clear z ho hs;obtain⟨i0,H,u,a,v⟩:=kze js;have HI:=hid H;have HZ0:=hid u;have HZ1:=hid a;have HZ2:=hid v;clear H u a v;go_enter func199,ntmps199;go_wp2_with fail;go_loopw [0,5] (λN i wr=>∃k:Nat,k<=l.length/\i=.int .i64 k/\N=.int .u64 (bt s (l.take k):Nat)/\Below w.heap.size w wr) (λ_ i _=>l.length-(intOf i).toNat)
 case atStart=>exact⟨0,kqx _,rfl,rfl,kqk _ _⟩
 obtain⟨k,hk,rfl,rfl,J⟩:=hrel;have hz:=J.size;by_cases g:k<l.length
 .obtain ⟨b,R,rfl,hb,Q⟩:=RdW.at_ HR.out g;replace Q:=(J.cell (p:=⟨b,R+k,none⟩) hb).trans Q;have Y:=hid (HO.out l[k] (kqs g));have M:=hid (ly g s);obtain⟨x,U⟩:=xq (l[k]);rw[U] at Q Y M;have V:=hid (jq HS.out (l.take k));obtain⟨q,Z⟩:=xq (bt s (l.take k));rw[Z] at M V |-;clear U Z;have ik1:(0:Int)<=(k:Int):=by omega
  have ik2:(k:Int)<(l.length:Int):=by omega
  go_wp2_with fail;refine (uA x _ Y.out).mono ?_;rintro e O ⟨rfl,S⟩;have I:=J.trans (S.mono hz);have a:=I.size;have K:=Bx.new O 308 gN;have H:(prog.info? 308).map (·.size)=some (bT x 8).size:=by rw[bu];exact Dx
  have F:=jM x 8;have f:=kk K;rw[show gN.size=(bT x 8).size by rw[bu];simp[gN]] at f;have G:=hid (fE K (cs:=bT x 8) (by rw[bu];simp[gN]));have C:=hid (cP a (bT x 8).toList (o:=0) (I.alloc a (.cells gN 308)));clear K;obtain⟨cs,h⟩:=xq (bT x 8);have P:=hid h;rw[h] at H F f G C |-;clear h;go_wp2_with (refine kkj rfl _ _ _ rfl O.heap.size 0 cs (by rfl) (by rfl) f H F ?_);go_loopw [0,7] (λN i wr=>∃j:Nat,j<=8/\i=.int .i64 j/\N=.int .u64 (yQ q x j:Nat)/\Bx wr O.heap.size 308 cs/\Below w.heap.size w wr) (λ_ i _=>8-(intOf i).toNat)
  case atStart=>exact⟨0,kqx _,rfl,rfl,G.out,C.out⟩
  obtain⟨j,hj,rfl,rfl,m,B⟩:=hrel;by_cases E:j<8
  .have X:=m.cell j;rw[<-P.out,ep x 8 j E,if_pos E] at X;have hf:=m.frozen j;have hlb:=m.lt;have L:=hid m;have D:=qA x j;have t:=hid (r9 V.out x j);have d:Hid (yQ q x (j+1)=C4 (yQ q x j) (iC x j)):=hid rfl;obtain⟨p,T⟩:=xq (yQ q x j);obtain⟨y,W⟩:=xq (iC x j);rw[T] at t d |-;rw[W] at D X d;have ij0:(0:Int)<=(j:Int):=by omega
   have ij1:(j:Int)<8:=by omega
   clear T W m;go_wp2_with fail;refine (step_c p y _ t.out D).mono ?_;rintro e w2 ⟨rfl,rfl⟩;obtain⟨r,z⟩:=xq (C4 p y);rw[z] at d |-;clear z;go_wp2_with fail;refine⟨⟨j+1,by omega,by go_num,by rw[d.out],L.out,B⟩,by simp[intOf];omega⟩
  obtain rfl:j=8:=by omega
  clear m;go_wp2;go_roundw
  case rel=>exact⟨k+1,by omega,by go_num,by rw[M.out];rfl,B⟩
  case measure=>simp[intOf];omega
 obtain rfl:k=l.length:=by omega
 rw[kzj];go_wp2;go_ret;exact⟨rfl,J⟩
theorem sum_c(A:Option Addr)(l:List Nat)(c n:Nat)(w:World)(hn:l.length=n)(hm:n<=2048)(hr:RdW w w.heap.size A l)(ho:∀x∈l,x<18446744073709551616):
 Calls prog 138 #[.slice A n c] w λe w'=>e=.returned (.int .u64 (bt 14695981039346656037 l:Nat))/\Below w.heap.size w w':=by have h:=hid hr;have g:=hid ho;have f:=hid hn;clear hr ho hn;go_enter func138,ntmps138;go_wp2_with fail;refine (sE 14695981039346656037 A l c n w f.out hm (by omega) h.out g.out).mono ?_;rintro e w1 ⟨rfl,a⟩;obtain⟨q,b⟩:=xq (bt 14695981039346656037 l);have d:=hid b;rw[b];clear b;go_wp2;go_ret;exact⟨by rw[d.out];rfl,a⟩
theorem tw(A:Option Addr)(l:List Nat)(c n:Nat)(w:World)(hn:l.length=n)(hm:n<=2048)(a:RdW w w.heap.size A l)(ho:∀x∈l,x<18446744073709551616):
 Calls prog 140 #[.slice A n c,.int .i64 32] w λe w'=>e=.returned (.int .u64 ((bt 14695981039346656037 l%4294967296:Nat):Int))/\Below w.heap.size w w':=by have k:=hid a;have j:=hid ho;have i:=hid hn;clear a ho hn;go_enter func140,ntmps140;go_wp2_with fail;refine (sum_c A l c n w i.out hm k.out j.out).mono ?_;rintro e m ⟨rfl,f⟩;have b:=hid (jq (s:=14695981039346656037) (by omega) l);obtain⟨q,g⟩:=xq (bt 14695981039346656037 l);have h:=hid g;rw[g] at b |-;clear g;go_wp2_with fail;refine (jg q 0 32 m b.out (by omega)).mono ?_;rintro e w2 ⟨rfl,rfl⟩;obtain⟨r,a⟩:=xq (bD q 0 32);have d:=hid a;rw[a];clear a;go_wp2;go_ret;exact⟨by rw[h.out,<-d.out];simp[bD],f⟩
theorem ji(hw:w<2 ^ f)(hv:v<2 ^ n):ig w f n v=w+v*2 ^ f:=by unfold ig bD;rw[Nat.div_eq_of_lt hw,Nat.zero_mod,kkz,Nat.sub_zero,Nat.mod_eq_of_lt hv]
theorem kG(K T S:Nat)(m:Bool)(w:World)(h1:K<256)(h2:T<128)(h3:S<65536):
 Calls prog 90 #[.int .i64 (K:Int),.bool m,.int .i64 (T:Int),.int .i64 (S:Int)] w λe w'=>e=.returned (.int .u64 ((K+lO m*256+T*512+S*65536+iH (K+lO m*256+T*512+S*65536)%4294967296*4294967296:Nat):Int))/\Below w.heap.size w w':=by
 obtain⟨M,t⟩:=xq (lO m);have hM1:M<2:=by rw[<-t];cases m<;>simp[lO]
 have E:=hid (λW=>pY 0 0 8 K W (by omega) (by omega) (by omega));have C:=ji (w:=0) (f:=0) (n:=8) (v:=K) (by omega) (by omega);have J:=ji (w:=K) (f:=8) (n:=1) (v:=1) (by omega) (by omega);have H:=ji (w:=K+M*256) (f:=9) (n:=7) (v:=T) (by omega) (by omega);have N:=ji (w:=K+M*256+T*512) (f:=16) (n:=16) (v:=S) (by omega) (by omega);have i:K+M*256+T*512+S*65536<4294967296:=by omega
 have q:=hid (kz1 (iH (K+M*256+T*512+S*65536)) (show 4294967296 > 0 by omega));have D:=hid (λW=>pY K 8 1 1 W (by omega) (by omega) (by omega));have o:=hid (λW=>pY (K+M*256) 9 7 T W (by omega) (by omega) (by omega));have j:=hid (λW=>pY (K+M*256+T*512) 16 16 S W (by omega) (by omega) (by omega));rw[show 0+K*2 ^ 0=K by omega] at C;rw[C] at E;rw[J] at D;rw[H] at o;rw[N] at j;have I:=ji (w:=K+M*256+T*512+S*65536) (f:=32) (n:=32) (v:=iH (K+M*256+T*512+S*65536)%4294967296) (by omega) q.out;have l:=hid (λW=>pY (K+M*256+T*512+S*65536) 32 32 (iH (K+M*256+T*512+S*65536)%4294967296) W (by omega) (by have:=q.out;omega) (by omega));rw[I] at l;rw[t];have A:K+1*2 ^ 8=K+256:=by omega
 have x:K+M*256+T*2 ^ 9=K+M*256+T*512:=by omega
 have z:K+M*256+T*512+S*2 ^ 16=K+M*256+T*512+S*65536:=by omega
 rw[A] at D;rw[x] at o;rw[z] at j;clear C J H N I A x z;obtain⟨u,B⟩:=xq (K+M*256);rw[B] at o j l i q |-;obtain⟨F,p⟩:=xq (u+T*512);rw[p] at o j l i q |-;obtain⟨c,r⟩:=xq (F+S*65536);rw[r] at j l i q |-;have g:Hid (m=true->K+256=u):=hid (λh=>by subst h;simp[lO] at t;omega);have d:Hid (m=false->K=u):=hid (λh=>by subst h;simp[lO] at t;omega);clear B p r t;cases m
 .obtain rfl:=d.out rfl;clear d g;go_enter func90,ntmps90;go_wp2_with fail;refine (E.out _).mono ?_;rintro e L ⟨rfl,rfl⟩;go_wp2_with fail;refine (o.out _).mono ?_;rintro e P ⟨rfl,rfl⟩;go_wp2_with fail;refine (j.out _).mono ?_;rintro e G ⟨rfl,rfl⟩;go_wp2_with fail;have b:=o9 G [.int .u64 (c:Int)] 53;refine (tw _ [c] _ 1 _ rfl (by omega) (by rw[kqn];exact b) (by intro y s;simp at s;subst s;omega)).mono ?_;rintro e Q ⟨rfl,a⟩;rw[kqn] at a;have k:=ao a;rw[show bt 14695981039346656037 [c]=iH c from rfl];clear a b;go_wp2_with fail;refine (l.out _).mono ?_;rintro e O ⟨rfl,rfl⟩;go_wp2;go_ret;exact⟨rfl,k⟩
 obtain rfl:=g.out rfl;clear d g;go_enter func90,ntmps90;go_wp2_with fail;refine (E.out _).mono ?_;rintro e L ⟨rfl,rfl⟩;go_wp2_with fail;refine (D.out _).mono ?_;rintro e L ⟨rfl,rfl⟩;go_wp2_with fail;refine (o.out _).mono ?_;rintro e P ⟨rfl,rfl⟩;go_wp2_with fail;refine (j.out _).mono ?_;rintro e G ⟨rfl,rfl⟩;go_wp2_with fail;have b:=o9 G [.int .u64 (c:Int)] 53;refine (tw _ [c] _ 1 _ rfl (by omega) (by rw[kqn];exact b) (by intro y s;simp at s;subst s;omega)).mono ?_;rintro e Q ⟨rfl,a⟩;rw[kqn] at a;have k:=ao a;rw[show bt 14695981039346656037 [c]=iH c from rfl];clear a b;go_wp2_with fail;refine (l.out _).mono ?_;rintro e O ⟨rfl,rfl⟩;go_wp2;go_ret;exact⟨rfl,k⟩
end Go.Proofs.YtpcajamacpbjcaaGreat
