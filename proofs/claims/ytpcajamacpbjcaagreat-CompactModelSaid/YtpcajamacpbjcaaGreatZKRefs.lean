/- Texts laid together: Ref01 Ref05 Ref14W. -/
import Derived.Test.YtpcajamacpbjcaaGreatZKHead
set_option maxHeartbeats 16000000
set_option maxRecDepth 100000
set_option linter.all false
namespace Go.Proofs.YtpcajamacpbjcaaGreat
open Lib (hid)
open Go.RowKit
variable {f n v w:Nat}
open Go.Proofs.Tryz
def bp (w f n:Nat):Nat:=w/2 ^ f%2 ^ n
def ii (w f n v:Nat):Nat:=w-bp w f n*2 ^ f+v%2 ^ n*2 ^ f
theorem lJ(w f n:Nat):bp w f (n+1)=bp w f n+w/2 ^ (f+n)%2*2 ^ n:=by unfold bp;rw[kji,Nat.mod_mul,kxg,<-kj4,kjd (2 ^ n)]
theorem xG(w f n:Nat):bp w f n<2 ^ n:=kz3 _ (kvn (by omega))
theorem nW(w f n:Nat):bp w f n*2 ^ f<=w:=by have a:bp w f n<=w/2 ^ f:=Nat.mod_le _ _;exact kza (kjb _ a) (Nat.div_mul_le_self _ _)
theorem xp(w f v:Nat):ii w f 0 v=w:=by simp[ii,bp,Nat.mod_one]
theorem rI(w f n v:Nat):ii w f n v/2 ^ (f+n)=w/2 ^ (f+n):=by
 have g:0<2 ^ (f+n):=kvn (by omega);have h1:w=w/2 ^ (f+n)*2 ^ (f+n)+(bp w f n*2 ^ f+w%2 ^ f):=by
  have e1:=kvg w (2 ^ f);have a:=kvg (w/2 ^ f) (2 ^ n);rw[kxg,<-kj4] at a;unfold bp;have h:2 ^ f*(w/2 ^ f)=2 ^ f*(2 ^ n*(w/2 ^ (f+n))+w/2 ^ f%2 ^ n):=by rw[a]
  rw[Nat.mul_add,<-kvf,<-kj4] at h;rw[kjd (w/2 ^ (f+n)),kjd (w/2 ^ f%2 ^ n)];omega
 have b:ii w f n v=w/2 ^ (f+n)*2 ^ (f+n)+(v%2 ^ n*2 ^ f+w%2 ^ f):=by unfold ii;omega
 have c:v%2 ^ n*2 ^ f+w%2 ^ f<2 ^ (f+n):=by have e:v%2 ^ n+1<=2 ^ n:=kz3 _ (kvn (by omega));have a2:w%2 ^ f<2 ^ f:=kz3 _ (kvn (by omega));have d:(v%2 ^ n+1)*2 ^ f<=2 ^ n*2 ^ f:=kjb _ e;rw[kj4,kjd (2 ^ f)];rw[kje] at d;omega
 rw[b,kjd,Nat.mul_add_div g,Nat.div_eq_of_lt c,kxd]
theorem xO(w f n v:Nat):ii w f (n+1) v=ii w f n v-ii w f n v/2 ^ (f+n)%2*2 ^ (f+n)+v/2 ^ n%2*2 ^ (f+n)/\ii w f n v/2 ^ (f+n)%2*2 ^ (f+n)<=ii w f n v:=by
 have a:ii w f n v/2 ^ (f+n)%2*2 ^ (f+n)<=ii w f n v:=kza (kjb _ (Nat.mod_le _ _)) (Nat.div_mul_le_self _ _);refine⟨?_,a⟩;rw[rI] at a |-;have b:=lJ w f n;have c:v%2 ^ (n+1)=v%2 ^ n+v/2 ^ n%2*2 ^ n:=by rw[kji,Nat.mod_mul,kjd (2 ^ n)]
 have d:=nW w f (n+1);have e4:=nW w f n;unfold ii at a |-;rw[b,kje,kvf (w/2 ^ (f+n)%2),<-kj4,kj0 n f] at d |-;rw[c,kje,kvf (v/2 ^ n%2),<-kj4,kj0 n f];omega
theorem tO(hw:w<18446744073709551616)(h:f+n<=64):ii w f n v<18446744073709551616:=by
 have a:0<2 ^ (f+n):=kvn (by omega);have e:18446744073709551616=2 ^ (64-(f+n))*2 ^ (f+n):=by rw[<-kj4,show 64-(f+n)+(f+n)=64 by omega]
 rw[e,<-Nat.div_lt_iff_lt_mul a] at hw |-;rw[rI];exact hw
theorem qN(h:f+n<=64):bp w f n<18446744073709551616:=
 kxv (xG w f n) (show 2 ^ n<=2 ^ 64 from kjc (by omega) (by omega))
theorem GT(x i:Nat)(w:World)(hx:x<18446744073709551616)(hi:i<=64):
 Calls prog 200 #[.int .u64 (x:Int),.int .i64 (i:Int)] w λe w'=>e=.returned (.int .u64 ((x/2 ^ i%2:Nat):Int))/\w'=w:=by
 have f:=hid hx;clear hx;go_enter func200,ntmps200;go_wp2_with fail;go_loopw [0,5] (λv k wr=>∃j:Nat,j<=i/\k=.int .i64 j/\v=.int .u64 ((x/2 ^ j:Nat):Int)/\wr=w) (λ_ k _=>i-(intOf k).toNat)
 case atStart=>exact⟨0,kqy _,rfl,by simp,rfl⟩
 obtain⟨j,hj,rfl,rfl,rfl⟩:=hrel;obtain⟨y,a⟩:=xq (x/2 ^ j);rw[a];have hy0:(0:Int)<=(y:Int):=by omega
 have c:=hid a;have b:=hid (show y<18446744073709551616 by rw[<-a];exact kkc (kkz _ _) f.out);clear a;by_cases hlt:j<i
 .have ik1:(j:Int)<(i:Int):=by omega
  have hy1:(y:Int)/2<18446744073709551616:=by have:=b.out;omega
  have hy2:(0:Int)<=(y:Int)/2:=by omega
  have d:Hid (x/2 ^ (j+1)=y/2):=hid (by rw[<-c.out,kji,kxg]);go_wp2;go_roundw
  case rel=>exact⟨j+1,by omega,by go_num,by rw[d.out];go_num,trivial⟩
  case measure=>simp[intOf];omega
 obtain rfl:j=i:=by omega
 go_wp2;go_ret;rw[c.out];exact⟨by go_num,rfl⟩
theorem x9(i:Nat)(w:World)(hi:i<64):
 Calls prog 201 #[.int .i64 (i:Int)] w λe w'=>e=.returned (.int .u64 ((2 ^ i:Nat):Int))/\w'=w:=by
 go_enter func201,ntmps201;go_wp2_with fail;go_loopw [3,4] (λv k wr=>∃j:Nat,j<=i/\k=.int .i64 j/\v=.int .u64 ((2 ^ j:Nat):Int)/\wr=w) (λ_ k _=>i-(intOf k).toNat)
 case atStart=>exact⟨0,kqy _,rfl,rfl,rfl⟩
 obtain⟨j,hj,rfl,rfl,rfl⟩:=hrel;obtain⟨y,a⟩:=xq (2 ^ j);rw[a];have hy0:(0:Int)<=(y:Int):=by omega
 have b:=hid a;by_cases hlt:j<i
 .have ik1:(j:Int)<(i:Int):=by omega
  have hy1:(y:Int)*2<18446744073709551616:=by have c:2 ^ (j+1)<=2 ^ 63:=kjc (by omega) (by omega);rw[kji,a] at c;omega
  have d:Hid (2 ^ (j+1)=y*2):=hid (by rw[<-b.out,kji]);clear a;go_wp2;go_roundw
  case rel=>exact⟨j+1,by omega,by go_num,by rw[d.out];go_num,trivial⟩
  case measure=>simp[intOf];omega
 obtain rfl:j=i:=by omega
 clear a;go_wp2;go_ret;rw[b.out];exact⟨by go_num,rfl⟩
theorem iM(x f n:Nat)(w:World)(hx:x<18446744073709551616)(hi:f+n<=64):
 Calls prog 202 #[.int .u64 (x:Int),.int .i64 (f:Int),.int .i64 (n:Int)] w λe w'=>e=.returned (.int .u64 ((bp x f n:Nat):Int))/\w'=w:=by
 have u:=hid hx;clear hx;go_enter func202,ntmps202;go_wp2_with fail;go_loopw [7,8] (λv k wr=>∃j:Nat,j<=n/\k=.int .i64 j/\v=.int .u64 ((bp x f j:Nat):Int)/\wr=w) (λ_ k _=>n-(intOf k).toNat)
 case atStart=>exact⟨0,kqy _,rfl,by simp[bp,Nat.mod_one],rfl⟩
 obtain⟨j,hj,rfl,rfl,rfl⟩:=hrel;obtain⟨y,c⟩:=xq (bp x f j);rw[c];have hy0:(0:Int)<=(y:Int):=by omega
 by_cases hlt:j<n
 .have ik1:(j:Int)<(n:Int):=by omega
  have d:=GT x (f+j) wr u.out (by omega);have g:=x9 j wr (by omega);have a:=lJ x f j;have h:=qN (w:=x) (f:=f) (n:=j+1) (by omega);obtain⟨b,l⟩:=xq (x/2 ^ (f+j)%2);obtain⟨p,i⟩:=xq (2 ^ j);rw[l,kju] at d;rw[i] at g;rw[c,l,i] at a;rw[a] at h;obtain⟨q,m⟩:=xq (b*p);rw[m] at a h;have o:(b:Int)*(p:Int)=(q:Int):=by rw[<-m,kkx]
  have hm0:(0:Int)<=(b:Int)*(p:Int):=by omega
  have hm1:(b:Int)*(p:Int)<18446744073709551616:=by omega
  have hs0:(0:Int)<=(y:Int)+(b:Int)*(p:Int):=by omega
  have hs1:(y:Int)+(b:Int)*(p:Int)<18446744073709551616:=by omega
  have t:=hid o;have r:=hid d;have s:=hid g;have z:=hid a;clear l i m c d g a h o;go_wp2_with fail;refine r.out.mono ?_;rintro e w1 ⟨rfl,rfl⟩;go_wp2_with fail;refine s.out.mono ?_;rintro e w2 ⟨rfl,rfl⟩;go_wp2;go_roundw
  case rel=>exact⟨j+1,by omega,by go_num,by rw[z.out,t.out];go_num,trivial⟩
  case measure=>simp[intOf];omega
 obtain rfl:j=n:=by omega
 have A:=hid c;clear c;go_wp2;go_ret;rw[A.out];exact⟨by go_num,rfl⟩
theorem qu(x f n v:Nat)(w:World)(hx:x<18446744073709551616)(hv:v<18446744073709551616)(hi:f+n<=64):
 Calls prog 139 #[.int .u64 (x:Int),.int .i64 (f:Int),.int .i64 (n:Int),.int .u64 (v:Int)] w λe w'=>e=.returned (.int .u64 ((ii x f n v:Nat):Int))/\w'=w:=by
 have D:=hid hx;have H:=hid hv;clear hx hv;go_enter func139,ntmps139;go_wp2_with fail;go_loopw [0,9] (λu k wr=>∃j:Nat,j<=n/\k=.int .i64 j/\u=.int .u64 ((ii x f j v:Nat):Int)/\wr=w) (λ_ k _=>n-(intOf k).toNat)
 case atStart=>exact⟨0,kqy _,rfl,by rw[xp],rfl⟩
 obtain⟨j,hj,rfl,rfl,rfl⟩:=hrel;obtain⟨y,h⟩:=xq (ii x f j v);rw[h];have hy0:(0:Int)<=(y:Int):=by omega
 by_cases hlt:j<n
 .have ik1:(j:Int)<(n:Int):=by omega
  have d:=tO (v:=v) D.out (show f+j<=64 by omega);rw[h] at d;have t:=GT y (f+j) wr d (by omega);have z:=x9 (f+j) wr (by omega);have A:=GT v j wr H.out (by omega);obtain⟨g,a⟩:=xO x f j v;have i:=tO (v:=v) D.out (show f+(j+1)<=64 by omega);rw[h] at g a;rw[g] at i;obtain⟨b,m⟩:=xq (y/2 ^ (f+j)%2);obtain⟨p,l⟩:=xq (2 ^ (f+j));obtain⟨c,B⟩:=xq (v/2 ^ j%2);rw[m,kju] at t;rw[l,kju] at z;rw[B] at A;rw[m,l,B] at g i;rw[m,l] at a;obtain⟨q,o⟩:=xq (b*p);obtain⟨r,s⟩:=xq (c*p);rw[o,s] at g i;rw[o] at a;have F:(b:Int)*(p:Int)=(q:Int):=by rw[<-o,kkx]
  have L:(c:Int)*(p:Int)=(r:Int):=by rw[<-s,kkx]
  have hm0:(0:Int)<=(b:Int)*(p:Int):=by omega
  have hm1:(b:Int)*(p:Int)<18446744073709551616:=by omega
  have hn0:(0:Int)<=(c:Int)*(p:Int):=by omega
  have hn1:(c:Int)*(p:Int)<18446744073709551616:=by omega
  have ht0:(0:Int)<=(y:Int)-(b:Int)*(p:Int):=by omega
  have ht1:(y:Int)-(b:Int)*(p:Int)<18446744073709551616:=by omega
  have hs0:(0:Int)<=(y:Int)-(b:Int)*(p:Int)+(c:Int)*(p:Int):=by omega
  have hs1:(y:Int)-(b:Int)*(p:Int)+(c:Int)*(p:Int)<18446744073709551616:=by omega
  have E:(((y-q+r:Nat):Int))=(y:Int)-(b:Int)*(p:Int)+(c:Int)*(p:Int):=by omega
  have I:=hid E;have G:=hid t;have C:=hid z;have K:=hid g;have J:=hid A;clear m l B o s h t z g a i A F L E d;go_wp2_with fail;refine G.out.mono ?_;rintro e w1 ⟨rfl,rfl⟩;go_wp2_with fail;refine C.out.mono ?_;rintro e w2 ⟨rfl,rfl⟩;go_wp2_with fail;refine J.out.mono ?_;rintro e w3 ⟨rfl,rfl⟩;go_wp2_with fail;refine C.out.mono ?_;rintro e w4 ⟨rfl,rfl⟩;go_wp2;go_roundw
  case rel=>exact⟨j+1,by omega,by go_num,by rw[K.out,I.out],trivial⟩
  case measure=>simp[intOf];omega
 obtain rfl:j=n:=by omega
 have M:=hid h;clear h;go_wp2;go_ret;rw[M.out];exact⟨by go_num,rfl⟩
theorem wB(x:Nat)(w:World)(hx:x<18446744073709551616):
 Calls prog 249 #[.int .u64 (x:Int)] w λe w'=>e=.returned (.agg (bD x 8))/\Below w.heap.size w w':=by
 have hzv:=zp;have B:=hid hx;clear hx;go_enter func249,ntmps249;go_wp2_with fail;go_loopw [0,4] (λv i wr=>∃k:Nat,k<=8/\i=.int .i64 k/\v=.int .u64 ((x/256 ^ k:Nat):Int)/\Bx wr w.heap.size 308 gl/\Bx wr (w.heap.size+1) 308 (bD x k)/\Below w.heap.size w wr) (λ_ i _=>8-(intOf i).toNat)
 case atStart =>
  refine⟨0,kqy _,rfl,by simp,(Bx.new w _ _).alloc _,?_,((kql _ _).alloc (kqg _) _).alloc (by simp) _⟩;have:=Bx.new (w.alloc (.cells gl 308)) 308 gl;rw[kqn] at this;rw[<-uU];exact this
 obtain⟨k,hk,rfl,rfl,h,f,r⟩:=hrel;have hz:=r.size;by_cases g:k<8
 .have C:=f.cell k;rw[dQ _ _ _ g] at C;have hf:=f.frozen k;have u:=hid (mz x k g);have a:=hid f;have s:=hid h;have ik0:(0:Int)<=(k:Int):=by omega
  have ik1:(k:Int)<8:=by omega
  obtain⟨y,b⟩:=xq (x/256 ^ k);have z:Hid (y<18446744073709551616):=hid (by rw[<-b];exact kkc (kkz _ _) B.out);have q:Hid (iD x k=y%256):=hid (by rw[<-b];rfl);have A:Hid (x/256 ^ (k+1)=y/256):=hid (by rw[<-b,kji,kxg]);have hy0:(0:Int)<=(y:Int):=by omega
  have hy1:(y:Int)/256<18446744073709551616:=by have:=z.out;omega
  have hy2:(0:Int)<=(y:Int)/256:=by omega
  rw[b];clear h f b;go_wp2_with fail;refine⟨⟨k+1,by omega,by go_num,by rw[A.out];go_num,s.out.far (p:=⟨w.heap.size+1,k,none⟩) (by dsimp only;omega) _,?_,r.setCell (p:=⟨w.heap.size+1,k,none⟩) (by dsimp only;omega) _⟩,by simp[intOf];omega⟩;rw[<-u.out,q.out];exact a.out.set_ k _
 obtain rfl:k=8:=by omega
 have n:(prog.info? 308).map (·.size)=some (bD x 8).size:=by rw[bh];exact Gl
 have j:=jz x 8;have c:=lZ h;rw[show gl.size=(bD x 8).size by rw[bh];simp[gl]] at c;have m:=hid (fS h (cs:=bD x 8) (by rw[bh];simp[gl]));have a:=hid f;have l:=hid (cX (kqg _) (bD x 8).toList (o:=0) r);clear h f;obtain⟨cs,d⟩:=xq (bD x 8);have t:=hid d;rw[d] at n j c m a l;obtain⟨y,b⟩:=xq (x/256 ^ 8);rw[b];clear d b;go_wp2_with (first
  | (refine kja rfl _ _ rfl (w.heap.size+1) (by rfl) 308 cs (0,0) _ a.out underlying308 (by rfl) n ?_)
  | (refine kkq rfl _ _ _ rfl w.heap.size 0 cs (by rfl) (by rfl) c n j ?_))
 exact kqv (v:=.agg cs) (results_cell_row rfl _ _ w.heap.size _ cs (0,0) _ (by rfl) m.out underlying308 (by rfl) n) rfl ⟨by rw[t.out],l.out⟩
theorem Ds(s b:Nat)(hb:b<256):ER s b=(s-s%256+((s%256) ^^^ b))*1099511628211%18446744073709551616:=by rw[Ig s b hb];rfl
theorem v9(s b:Nat)(hb:b<256):(s%256) ^^^ b<256:=Nat.xor_lt_two_pow (n:=8) (kz3 _ (by omega)) hb
theorem step_c(s b:Nat)(w:World)(hs:s<18446744073709551616)(hb:b<256):
 Calls prog 250 #[.int .u64 (s:Int),.int .u8 (b:Int)] w λe w'=>e=.returned (.int .u64 ((ER s b:Nat):Int))/\w'=w:=by
 have c:=hid (Ds s b hb);have g:=v9 s b hb;have a:=u8_xor_nat (s%256) b (kz3 _ (by omega)) hb;rw[Int.natCast_emod] at a;obtain⟨q,d⟩:=xq ((s%256) ^^^ b);rw[d] at c g a;have hx':bits .xor .u8 ((s:Int)%256) (b:Int)=(q:Int):=a;have hs0:(0:Int)<=(s:Int):=by omega
 have ht0:(0:Int)<=(s:Int)-(s:Int)%256:=by omega
 have ht1:(s:Int)-(s:Int)%256<18446744073709551616:=by omega
 have hu0:(0:Int)<=(s:Int)-(s:Int)%256+(q:Int):=by omega
 have hu1:(s:Int)-(s:Int)%256+(q:Int)<18446744073709551616:=by omega
 have f:Hid ((s:Int)-(s:Int)%256+(q:Int)=((s-s%256+q:Nat):Int)):=hid (by omega);clear hs hb d a;go_enter func250,ntmps250;go_wp2;go_ret;refine⟨?_,rfl⟩;rw[c.out,<-lD,kkx,<-f.out];rfl
theorem tV(s:Nat)(A:Option Addr)(l:List Nat)(c n:Nat)(w:World)(hn:l.length=n)(hm:n<=2048)(hs:s<18446744073709551616)(t:RdW w w.heap.size A l)(ho:∀x∈l,x<18446744073709551616):
 Calls prog 199 #[.int .u64 (s:Int),.slice A n c] w λe w'=>e=.returned (.int .u64 (a8 s l:Nat))/\Below w.heap.size w w':=by
 subst hn;have HR:=hid t;have HO:=hid ho;have HS:=hid hs;have hzv:=zp;clear t ho hs;obtain⟨i0,C,v,a,D⟩:=kzt jl;have HI:=hid C;have HZ0:=hid v;have HZ1:=hid a;have HZ2:=hid D;clear C v a D;go_enter func199,ntmps199;go_wp2_with fail;go_loopw [0,5] (λN i wr=>∃k:Nat,k<=l.length/\i=.int .i64 k/\N=.int .u64 (a8 s (l.take k):Nat)/\Below w.heap.size w wr) (λ_ i _=>l.length-(intOf i).toNat)
 case atStart=>exact⟨0,kqy _,rfl,rfl,kql _ _⟩
 obtain⟨k,hk,rfl,rfl,J⟩:=hrel;have hz:=J.size;by_cases f:k<l.length
 .obtain ⟨b,O,rfl,hb,S⟩:=RdW.at_ HR.out f;replace S:=(J.cell (p:=⟨b,O+k,none⟩) hb).trans S;have W:=hid (HO.out l[k] (kqm f));have R:=hid (lA f s);obtain⟨x,T⟩:=xq (l[k]);rw[T] at S W R;have U:=hid (jg HS.out (l.take k));obtain⟨q,Z⟩:=xq (a8 s (l.take k));rw[Z] at R U |-;clear T Z;have ik1:(0:Int)<=(k:Int):=by omega
  have ik2:(k:Int)<(l.length:Int):=by omega
  go_wp2_with fail;refine (wB x _ W.out).mono ?_;rintro e Q ⟨rfl,P⟩;have H:=J.trans (P.mono hz);have a:=H.size;have K:=Bx.new Q 308 gl;have C:(prog.info? 308).map (·.size)=some (bD x 8).size:=by rw[bh];exact Gl
  have z:=jz x 8;have g:=lZ K;rw[show gl.size=(bD x 8).size by rw[bh];simp[gl]] at g;have I:=hid (fS K (cs:=bD x 8) (by rw[bh];simp[gl]));have G:=hid (cX a (bD x 8).toList (o:=0) (H.alloc a (.cells gl 308)));clear K;obtain⟨cs,h⟩:=xq (bD x 8);have M:=hid h;rw[h] at C z g I G |-;clear h;go_wp2_with (refine kkq rfl _ _ _ rfl Q.heap.size 0 cs (by rfl) (by rfl) g C z ?_);go_loopw [0,7] (λN i wr=>∃j:Nat,j<=8/\i=.int .i64 j/\N=.int .u64 (BM q x j:Nat)/\Bx wr Q.heap.size 308 cs/\Below w.heap.size w wr) (λ_ i _=>8-(intOf i).toNat)
  case atStart=>exact⟨0,kqy _,rfl,rfl,I.out,G.out⟩
  obtain⟨j,hj,rfl,rfl,m,F⟩:=hrel;by_cases B:j<8
  .have Y:=m.cell j;rw[<-M.out,dQ x 8 j B,if_pos B] at Y;have hf:=m.frozen j;have hlb:=m.lt;have L:=hid m;have u:=rk x j;have E:=hid (sD U.out x j);have d:Hid (BM q x (j+1)=ER (BM q x j) (iD x j)):=hid rfl;obtain⟨p,X⟩:=xq (BM q x j);obtain⟨y,V⟩:=xq (iD x j);rw[X] at E d |-;rw[V] at u Y d;have ij0:(0:Int)<=(j:Int):=by omega
   have ij1:(j:Int)<8:=by omega
   clear X V m;go_wp2_with fail;refine (step_c p y _ E.out u).mono ?_;rintro e w2 ⟨rfl,rfl⟩;obtain⟨r,t⟩:=xq (ER p y);rw[t] at d |-;clear t;go_wp2_with fail;refine⟨⟨j+1,by omega,by go_num,by rw[d.out],L.out,F⟩,by simp[intOf];omega⟩
  obtain rfl:j=8:=by omega
  clear m;go_wp2;go_roundw
  case rel=>exact⟨k+1,by omega,by go_num,by rw[R.out];rfl,F⟩
  case measure=>simp[intOf];omega
 obtain rfl:k=l.length:=by omega
 rw[kz2];go_wp2;go_ret;exact⟨rfl,J⟩
theorem sum_c(A:Option Addr)(l:List Nat)(c n:Nat)(w:World)(hn:l.length=n)(hm:n<=2048)(hr:RdW w w.heap.size A l)(ho:∀x∈l,x<18446744073709551616):
 Calls prog 138 #[.slice A n c] w λe w'=>e=.returned (.int .u64 (a8 14695981039346656037 l:Nat))/\Below w.heap.size w w':=by have g:=hid hr;have h:=hid ho;have f:=hid hn;clear hr ho hn;go_enter func138,ntmps138;go_wp2_with fail;refine (tV 14695981039346656037 A l c n w f.out hm (by omega) g.out h.out).mono ?_;rintro e w1 ⟨rfl,a⟩;obtain⟨q,b⟩:=xq (a8 14695981039346656037 l);have d:=hid b;rw[b];clear b;go_wp2;go_ret;exact⟨by rw[d.out];rfl,a⟩
theorem tY(A:Option Addr)(l:List Nat)(c n:Nat)(w:World)(hn:l.length=n)(hm:n<=2048)(a:RdW w w.heap.size A l)(ho:∀x∈l,x<18446744073709551616):
 Calls prog 140 #[.slice A n c,.int .i64 32] w λe w'=>e=.returned (.int .u64 ((a8 14695981039346656037 l%4294967296:Nat):Int))/\Below w.heap.size w w':=by have k:=hid a;have m:=hid ho;have i:=hid hn;clear a ho hn;go_enter func140,ntmps140;go_wp2_with fail;refine (sum_c A l c n w i.out hm k.out m.out).mono ?_;rintro e j ⟨rfl,d⟩;have b:=hid (jg (s:=14695981039346656037) (by omega) l);obtain⟨q,g⟩:=xq (a8 14695981039346656037 l);have h:=hid g;rw[g] at b |-;clear g;go_wp2_with fail;refine (iM q 0 32 j b.out (by omega)).mono ?_;rintro e w2 ⟨rfl,rfl⟩;obtain⟨r,a⟩:=xq (bp q 0 32);have f:=hid a;rw[a];clear a;go_wp2;go_ret;exact⟨by rw[h.out,<-f.out];simp[bp],d⟩
theorem iL(hw:w<2 ^ f)(hv:v<2 ^ n):ii w f n v=w+v*2 ^ f:=by unfold ii bp;rw[Nat.div_eq_of_lt hw,Nat.zero_mod,kvi,Nat.sub_zero,Nat.mod_eq_of_lt hv]
theorem nm(K T S:Nat)(m:Bool)(w:World)(h1:K<256)(h2:T<128)(h3:S<65536):
 Calls prog 90 #[.int .i64 (K:Int),.bool m,.int .i64 (T:Int),.int .i64 (S:Int)] w λe w'=>e=.returned (.int .u64 ((K+nD m*256+T*512+S*65536+gc (K+nD m*256+T*512+S*65536)%4294967296*4294967296:Nat):Int))/\Below w.heap.size w w':=by
 obtain⟨M,z⟩:=xq (nD m);have hM1:M<2:=by rw[<-z];cases m<;>simp[nD]
 have E:=hid (λW=>qu 0 0 8 K W (by omega) (by omega) (by omega));have C:=iL (w:=0) (f:=0) (n:=8) (v:=K) (by omega) (by omega);have J:=iL (w:=K) (f:=8) (n:=1) (v:=1) (by omega) (by omega);have N:=iL (w:=K+M*256) (f:=9) (n:=7) (v:=T) (by omega) (by omega);have I:=iL (w:=K+M*256+T*512) (f:=16) (n:=16) (v:=S) (by omega) (by omega);have d:K+M*256+T*512+S*65536<4294967296:=by omega
 have A:=hid (kz3 (gc (K+M*256+T*512+S*65536)) (show 4294967296 > 0 by omega));have D:=hid (λW=>qu K 8 1 1 W (by omega) (by omega) (by omega));have l:=hid (λW=>qu (K+M*256) 9 7 T W (by omega) (by omega) (by omega));have k:=hid (λW=>qu (K+M*256+T*512) 16 16 S W (by omega) (by omega) (by omega));rw[show 0+K*2 ^ 0=K by omega] at C;rw[C] at E;rw[J] at D;rw[N] at l;rw[I] at k;have H:=iL (w:=K+M*256+T*512+S*65536) (f:=32) (n:=32) (v:=gc (K+M*256+T*512+S*65536)%4294967296) (by omega) A.out;have o:=hid (λW=>qu (K+M*256+T*512+S*65536) 32 32 (gc (K+M*256+T*512+S*65536)%4294967296) W (by omega) (by have:=A.out;omega) (by omega));rw[H] at o;rw[z];have x:K+1*2 ^ 8=K+256:=by omega
 have q:K+M*256+T*2 ^ 9=K+M*256+T*512:=by omega
 have s:K+M*256+T*512+S*2 ^ 16=K+M*256+T*512+S*65536:=by omega
 rw[x] at D;rw[q] at l;rw[s] at k;clear C J N I H x q s;obtain⟨t,u⟩:=xq (K+M*256);rw[u] at l k o d A |-;obtain⟨F,B⟩:=xq (t+T*512);rw[B] at l k o d A |-;obtain⟨c,p⟩:=xq (F+S*65536);rw[p] at k o d A |-;have g:Hid (m=true->K+256=t):=hid (λh=>by subst h;simp[nD] at z;omega);have i:Hid (m=false->K=t):=hid (λh=>by subst h;simp[nD] at z;omega);clear u B p z;cases m
 .obtain rfl:=i.out rfl;clear i g;go_enter func90,ntmps90;go_wp2_with fail;refine (E.out _).mono ?_;rintro e L ⟨rfl,rfl⟩;go_wp2_with fail;refine (l.out _).mono ?_;rintro e O ⟨rfl,rfl⟩;go_wp2_with fail;refine (k.out _).mono ?_;rintro e G ⟨rfl,rfl⟩;go_wp2_with fail;have b:=nu G [.int .u64 (c:Int)] 53;refine (tY _ [c] _ 1 _ rfl (by omega) (by rw[kqn];exact b) (by intro y r;simp at r;subst r;omega)).mono ?_;rintro e P ⟨rfl,a⟩;rw[kqn] at a;have j:=au a;rw[show a8 14695981039346656037 [c]=gc c from rfl];clear a b;go_wp2_with fail;refine (o.out _).mono ?_;rintro e Q ⟨rfl,rfl⟩;go_wp2;go_ret;exact⟨rfl,j⟩
 obtain rfl:=g.out rfl;clear i g;go_enter func90,ntmps90;go_wp2_with fail;refine (E.out _).mono ?_;rintro e L ⟨rfl,rfl⟩;go_wp2_with fail;refine (D.out _).mono ?_;rintro e L ⟨rfl,rfl⟩;go_wp2_with fail;refine (l.out _).mono ?_;rintro e O ⟨rfl,rfl⟩;go_wp2_with fail;refine (k.out _).mono ?_;rintro e G ⟨rfl,rfl⟩;go_wp2_with fail;have b:=nu G [.int .u64 (c:Int)] 53;refine (tY _ [c] _ 1 _ rfl (by omega) (by rw[kqn];exact b) (by intro y r;simp at r;subst r;omega)).mono ?_;rintro e P ⟨rfl,a⟩;rw[kqn] at a;have j:=au a;rw[show a8 14695981039346656037 [c]=gc c from rfl];clear a b;go_wp2_with fail;refine (o.out _).mono ?_;rintro e Q ⟨rfl,rfl⟩;go_wp2;go_ret;exact⟨rfl,j⟩
end Go.Proofs.YtpcajamacpbjcaaGreat
