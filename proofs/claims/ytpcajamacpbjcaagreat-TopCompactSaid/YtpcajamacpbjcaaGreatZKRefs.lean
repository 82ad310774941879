/- Texts laid together: Ref01 Ref05 Ref14W. -/
import Derived.Test.YtpcajamacpbjcaaGreatZKHead
set_option maxHeartbeats 16000000
set_option maxRecDepth 100000
set_option linter.all false
namespace Go.Proofs.YtpcajamacpbjcaaGreat
open Lib (hid)
open Go.RowKit
variable {f n v w:Nat}
open Go.Proofs.Tryz
def bI (w f n:Nat):Nat:=w/2 ^ f%2 ^ n
def jg (w f n v:Nat):Nat:=w-bI w f n*2 ^ f+v%2 ^ n*2 ^ f
theorem mN(w f n:Nat):bI w f (n+1)=bI w f n+w/2 ^ (f+n)%2*2 ^ n:=by unfold bI;rw[kjm,Nat.mod_mul,kxe,<-kka,kje (2 ^ n)]
theorem ye(w f n:Nat):bI w f n<2 ^ n:=kz0 _ (kvw (by omega))
theorem qa(w f n:Nat):bI w f n*2 ^ f<=w:=by have a:bI w f n<=w/2 ^ f:=Nat.mod_le _ _;exact kz7 (kxy _ a) (Nat.div_mul_le_self _ _)
theorem xy(w f v:Nat):jg w f 0 v=w:=by simp[jg,bI,Nat.mod_one]
theorem tK(w f n v:Nat):jg w f n v/2 ^ (f+n)=w/2 ^ (f+n):=by
 have e:0<2 ^ (f+n):=kvw (by omega);have h1:w=w/2 ^ (f+n)*2 ^ (f+n)+(bI w f n*2 ^ f+w%2 ^ f):=by
  have e1:=kvl w (2 ^ f);have a:=kvl (w/2 ^ f) (2 ^ n);rw[kxe,<-kka] at a;unfold bI;have h:2 ^ f*(w/2 ^ f)=2 ^ f*(2 ^ n*(w/2 ^ (f+n))+w/2 ^ f%2 ^ n):=by rw[a]
  rw[Nat.mul_add,<-kvj,<-kka] at h;rw[kje (w/2 ^ (f+n)),kje (w/2 ^ f%2 ^ n)];omega
 have c:jg w f n v=w/2 ^ (f+n)*2 ^ (f+n)+(v%2 ^ n*2 ^ f+w%2 ^ f):=by unfold jg;omega
 have b:v%2 ^ n*2 ^ f+w%2 ^ f<2 ^ (f+n):=by have g:v%2 ^ n+1<=2 ^ n:=kz0 _ (kvw (by omega));have a2:w%2 ^ f<2 ^ f:=kz0 _ (kvw (by omega));have d:(v%2 ^ n+1)*2 ^ f<=2 ^ n*2 ^ f:=kxy _ g;rw[kka,kje (2 ^ f)];rw[kjh] at d;omega
 rw[c,kje,Nat.mul_add_div e,Nat.div_eq_of_lt b,kxa]
theorem xT(w f n v:Nat):jg w f (n+1) v=jg w f n v-jg w f n v/2 ^ (f+n)%2*2 ^ (f+n)+v/2 ^ n%2*2 ^ (f+n)/\jg w f n v/2 ^ (f+n)%2*2 ^ (f+n)<=jg w f n v:=by
 have a:jg w f n v/2 ^ (f+n)%2*2 ^ (f+n)<=jg w f n v:=kz7 (kxy _ (Nat.mod_le _ _)) (Nat.div_mul_le_self _ _);refine⟨?_,a⟩;rw[tK] at a |-;have c:=mN w f n;have b:v%2 ^ (n+1)=v%2 ^ n+v/2 ^ n%2*2 ^ n:=by rw[kjm,Nat.mod_mul,kje (2 ^ n)]
 have d:=qa w f (n+1);have e4:=qa w f n;unfold jg at a |-;rw[c,kjh,kvj (w/2 ^ (f+n)%2),<-kka,kjw n f] at d |-;rw[b,kjh,kvj (v/2 ^ n%2),<-kka,kjw n f];omega
theorem vv(hw:w<18446744073709551616)(h:f+n<=64):jg w f n v<18446744073709551616:=by
 have a:0<2 ^ (f+n):=kvw (by omega);have e:18446744073709551616=2 ^ (64-(f+n))*2 ^ (f+n):=by rw[<-kka,show 64-(f+n)+(f+n)=64 by omega]
 rw[e,<-Nat.div_lt_iff_lt_mul a] at hw |-;rw[tK];exact hw
theorem sq(h:f+n<=64):bI w f n<18446744073709551616:=
 kjq (ye w f n) (show 2 ^ n<=2 ^ 64 from kjd (by omega) (by omega))
theorem Jj(x i:Nat)(w:World)(hx:x<18446744073709551616)(hi:i<=64):
 Calls prog 200 #[.int .u64 (x:Int),.int .i64 (i:Int)] w λe w'=>e=.returned (.int .u64 ((x/2 ^ i%2:Nat):Int))/\w'=w:=by
 have f:=hid hx;clear hx;go_enter func200,ntmps200;go_wp2_with fail;go_loopw [0,5] (λv k wr=>∃j:Nat,j<=i/\k=.int .i64 j/\v=.int .u64 ((x/2 ^ j:Nat):Int)/\wr=w) (λ_ k _=>i-(intOf k).toNat)
 case atStart=>exact⟨0,kqz _,rfl,by simp,rfl⟩
 obtain⟨j,hj,rfl,rfl,rfl⟩:=hrel;obtain⟨y,a⟩:=xq (x/2 ^ j);rw[a];have hy0:(0:Int)<=(y:Int):=by omega
 have c:=hid a;have b:=hid (show y<18446744073709551616 by rw[<-a];exact kki (kk3 _ _) f.out);clear a;by_cases hlt:j<i
 .have ik1:(j:Int)<(i:Int):=by omega
  have hy1:(y:Int)/2<18446744073709551616:=by have:=b.out;omega
  have hy2:(0:Int)<=(y:Int)/2:=by omega
  have d:Hid (x/2 ^ (j+1)=y/2):=hid (by rw[<-c.out,kjm,kxe]);go_wp2;go_roundw
  case rel=>exact⟨j+1,by omega,by go_num,by rw[d.out];go_num,trivial⟩
  case measure=>simp[intOf];omega
 obtain rfl:j=i:=by omega
 go_wp2;go_ret;rw[c.out];exact⟨by go_num,rfl⟩
theorem CJ(i:Nat)(w:World)(hi:i<64):
 Calls prog 201 #[.int .i64 (i:Int)] w λe w'=>e=.returned (.int .u64 ((2 ^ i:Nat):Int))/\w'=w:=by
 go_enter func201,ntmps201;go_wp2_with fail;go_loopw [3,4] (λv k wr=>∃j:Nat,j<=i/\k=.int .i64 j/\v=.int .u64 ((2 ^ j:Nat):Int)/\wr=w) (λ_ k _=>i-(intOf k).toNat)
 case atStart=>exact⟨0,kqz _,rfl,rfl,rfl⟩
 obtain⟨j,hj,rfl,rfl,rfl⟩:=hrel;obtain⟨y,a⟩:=xq (2 ^ j);rw[a];have hy0:(0:Int)<=(y:Int):=by omega
 have b:=hid a;by_cases hlt:j<i
 .have ik1:(j:Int)<(i:Int):=by omega
  have hy1:(y:Int)*2<18446744073709551616:=by have d:2 ^ (j+1)<=2 ^ 63:=kjd (by omega) (by omega);rw[kjm,a] at d;omega
  have c:Hid (2 ^ (j+1)=y*2):=hid (by rw[<-b.out,kjm]);clear a;go_wp2;go_roundw
  case rel=>exact⟨j+1,by omega,by go_num,by rw[c.out];go_num,trivial⟩
  case measure=>simp[intOf];omega
 obtain rfl:j=i:=by omega
 clear a;go_wp2;go_ret;rw[b.out];exact⟨by go_num,rfl⟩
theorem jT(x f n:Nat)(w:World)(hx:x<18446744073709551616)(hi:f+n<=64):
 Calls prog 202 #[.int .u64 (x:Int),.int .i64 (f:Int),.int .i64 (n:Int)] w λe w'=>e=.returned (.int .u64 ((bI x f n:Nat):Int))/\w'=w:=by
 have u:=hid hx;clear hx;go_enter func202,ntmps202;go_wp2_with fail;go_loopw [7,8] (λv k wr=>∃j:Nat,j<=n/\k=.int .i64 j/\v=.int .u64 ((bI x f j:Nat):Int)/\wr=w) (λ_ k _=>n-(intOf k).toNat)
 case atStart=>exact⟨0,kqz _,rfl,by simp[bI,Nat.mod_one],rfl⟩
 obtain⟨j,hj,rfl,rfl,rfl⟩:=hrel;obtain⟨y,c⟩:=xq (bI x f j);rw[c];have hy0:(0:Int)<=(y:Int):=by omega
 by_cases hlt:j<n
 .have ik1:(j:Int)<(n:Int):=by omega
  have g:=Jj x (f+j) wr u.out (by omega);have i:=CJ j wr (by omega);have a:=mN x f j;have l:=sq (w:=x) (f:=f) (n:=j+1) (by omega);obtain⟨b,d⟩:=xq (x/2 ^ (f+j)%2);obtain⟨p,h⟩:=xq (2 ^ j);rw[d,kjn] at g;rw[h] at i;rw[c,d,h] at a;rw[a] at l;obtain⟨q,m⟩:=xq (b*p);rw[m] at a l;have o:(b:Int)*(p:Int)=(q:Int):=by rw[<-m,kk1]
  have hm0:(0:Int)<=(b:Int)*(p:Int):=by omega
  have hm1:(b:Int)*(p:Int)<18446744073709551616:=by omega
  have hs0:(0:Int)<=(y:Int)+(b:Int)*(p:Int):=by omega
  have hs1:(y:Int)+(b:Int)*(p:Int)<18446744073709551616:=by omega
  have t:=hid o;have z:=hid g;have A:=hid i;have s:=hid a;clear d h m c g i a l o;go_wp2_with fail;refine z.out.mono ?_;rintro e w1 ⟨rfl,rfl⟩;go_wp2_with fail;refine A.out.mono ?_;rintro e w2 ⟨rfl,rfl⟩;go_wp2;go_roundw
  case rel=>exact⟨j+1,by omega,by go_num,by rw[s.out,t.out];go_num,trivial⟩
  case measure=>simp[intOf];omega
 obtain rfl:j=n:=by omega
 have r:=hid c;clear c;go_wp2;go_ret;rw[r.out];exact⟨by go_num,rfl⟩
theorem tq(x f n v:Nat)(w:World)(hx:x<18446744073709551616)(hv:v<18446744073709551616)(hi:f+n<=64):
 Calls prog 139 #[.int .u64 (x:Int),.int .i64 (f:Int),.int .i64 (n:Int),.int .u64 (v:Int)] w λe w'=>e=.returned (.int .u64 ((jg x f n v:Nat):Int))/\w'=w:=by
 have D:=hid hx;have J:=hid hv;clear hx hv;go_enter func139,ntmps139;go_wp2_with fail;go_loopw [0,9] (λu k wr=>∃j:Nat,j<=n/\k=.int .i64 j/\u=.int .u64 ((jg x f j v:Nat):Int)/\wr=w) (λ_ k _=>n-(intOf k).toNat)
 case atStart=>exact⟨0,kqz _,rfl,by rw[xy],rfl⟩
 obtain⟨j,hj,rfl,rfl,rfl⟩:=hrel;obtain⟨y,h⟩:=xq (jg x f j v);rw[h];have hy0:(0:Int)<=(y:Int):=by omega
 by_cases hlt:j<n
 .have ik1:(j:Int)<(n:Int):=by omega
  have d:=vv (v:=v) D.out (show f+j<=64 by omega);rw[h] at d;have t:=Jj y (f+j) wr d (by omega);have A:=CJ (f+j) wr (by omega);have s:=Jj v j wr J.out (by omega);obtain⟨g,a⟩:=xT x f j v;have m:=vv (v:=v) D.out (show f+(j+1)<=64 by omega);rw[h] at g a;rw[g] at m;obtain⟨b,i⟩:=xq (y/2 ^ (f+j)%2);obtain⟨p,l⟩:=xq (2 ^ (f+j));obtain⟨c,z⟩:=xq (v/2 ^ j%2);rw[i,kjn] at t;rw[l,kjn] at A;rw[z] at s;rw[i,l,z] at g m;rw[i,l] at a;obtain⟨q,o⟩:=xq (b*p);obtain⟨r,B⟩:=xq (c*p);rw[o,B] at g m;rw[o] at a;have M:(b:Int)*(p:Int)=(q:Int):=by rw[<-o,kk1]
  have G:(c:Int)*(p:Int)=(r:Int):=by rw[<-B,kk1]
  have hm0:(0:Int)<=(b:Int)*(p:Int):=by omega
  have hm1:(b:Int)*(p:Int)<18446744073709551616:=by omega
  have hn0:(0:Int)<=(c:Int)*(p:Int):=by omega
  have hn1:(c:Int)*(p:Int)<18446744073709551616:=by omega
  have ht0:(0:Int)<=(y:Int)-(b:Int)*(p:Int):=by omega
  have ht1:(y:Int)-(b:Int)*(p:Int)<18446744073709551616:=by omega
  have hs0:(0:Int)<=(y:Int)-(b:Int)*(p:Int)+(c:Int)*(p:Int):=by omega
  have hs1:(y:Int)-(b:Int)*(p:Int)+(c:Int)*(p:Int)<18446744073709551616:=by omega
  have C:(((y-q+r:Nat):Int))=(y:Int)-(b:Int)*(p:Int)+(c:Int)*(p:Int):=by omega
  have H:=hid C;have K:=hid t;have E:=hid A;have I:=hid g;have L:=hid s;clear i l z o B h t A g a m s M G C d;go_wp2_with fail;refine K.out.mono ?_;rintro e w1 ⟨rfl,rfl⟩;go_wp2_with fail;refine E.out.mono ?_;rintro e w2 ⟨rfl,rfl⟩;go_wp2_with fail;refine L.out.mono ?_;rintro e w3 ⟨rfl,rfl⟩;go_wp2_with fail;refine E.out.mono ?_;rintro e w4 ⟨rfl,rfl⟩;go_wp2;go_roundw
  case rel=>exact⟨j+1,by omega,by go_num,by rw[I.out,H.out],trivial⟩
  case measure=>simp[intOf];omega
 obtain rfl:j=n:=by omega
 have F:=hid h;clear h;go_wp2;go_ret;rw[F.out];exact⟨by go_num,rfl⟩
theorem xY(x:Nat)(w:World)(hx:x<18446744073709551616):
 Calls prog 249 #[.int .u64 (x:Int)] w λe w'=>e=.returned (.agg (ch x 8))/\Below w.heap.size w w':=by
 have hzv:=Ay;have C:=hid hx;clear hx;go_enter func249,ntmps249;go_wp2_with fail;go_loopw [0,4] (λv i wr=>∃k:Nat,k<=8/\i=.int .i64 k/\v=.int .u64 ((x/256 ^ k:Nat):Int)/\Bx wr w.heap.size 308 iS/\Bx wr (w.heap.size+1) 308 (ch x k)/\Below w.heap.size w wr) (λ_ i _=>8-(intOf i).toNat)
 case atStart =>
  refine⟨0,kqz _,rfl,by simp,(Bx.new w _ _).alloc _,?_,((kqk _ _).alloc (kqa _) _).alloc (by simp) _⟩;have:=Bx.new (w.alloc (.cells iS 308)) 308 iS;rw[kqm] at this;rw[<-vk];exact this
 obtain⟨k,hk,rfl,rfl,g,f,t⟩:=hrel;have hz:=t.size;by_cases l:k<8
 .have B:=f.cell k;rw[eV _ _ _ l] at B;have hf:=f.frozen k;have q:=hid (oN x k l);have a:=hid f;have u:=hid g;have ik0:(0:Int)<=(k:Int):=by omega
  have ik1:(k:Int)<8:=by omega
  obtain⟨y,b⟩:=xq (x/256 ^ k);have r:Hid (y<18446744073709551616):=hid (by rw[<-b];exact kki (kk3 _ _) C.out);have s:Hid (jt x k=y%256):=hid (by rw[<-b];rfl);have A:Hid (x/256 ^ (k+1)=y/256):=hid (by rw[<-b,kjm,kxe]);have hy0:(0:Int)<=(y:Int):=by omega
  have hy1:(y:Int)/256<18446744073709551616:=by have:=r.out;omega
  have hy2:(0:Int)<=(y:Int)/256:=by omega
  rw[b];clear g f b;go_wp2_with fail;refine⟨⟨k+1,by omega,by go_num,by rw[A.out];go_num,u.out.far (p:=⟨w.heap.size+1,k,none⟩) (by dsimp only;omega) _,?_,t.setCell (p:=⟨w.heap.size+1,k,none⟩) (by dsimp only;omega) _⟩,by simp[intOf];omega⟩;rw[<-q.out,s.out];exact a.out.set_ k _
 obtain rfl:k=8:=by omega
 have n:(prog.info? 308).map (·.size)=some (ch x 8).size:=by rw[bC];exact Ki
 have m:=kD x 8;have c:=kj g;rw[show iS.size=(ch x 8).size by rw[bC];simp[iS]] at c;have j:=hid (fX g (cs:=ch x 8) (by rw[bC];simp[iS]));have a:=hid f;have h:=hid (bh (kqa _) (ch x 8).toList (o:=0) t);clear g f;obtain⟨cs,d⟩:=xq (ch x 8);have z:=hid d;rw[d] at n m c j a h;obtain⟨y,b⟩:=xq (x/256 ^ 8);rw[b];clear d b;go_wp2_with (first
  | (refine kxj rfl _ _ rfl (w.heap.size+1) (by rfl) 308 cs (0,0) _ a.out underlying308 (by rfl) n ?_)
  | (refine kju rfl _ _ _ rfl w.heap.size 0 cs (by rfl) (by rfl) c n m ?_))
 exact kqq (v:=.agg cs) (results_cell_row rfl _ _ w.heap.size _ cs (0,0) _ (by rfl) j.out underlying308 (by rfl) n) rfl ⟨by rw[z.out],h.out⟩
theorem Eu(s b:Nat)(hb:b<256):Hc s b=(s-s%256+((s%256) ^^^ b))*1099511628211%18446744073709551616:=by rw[IQ s b hb];rfl
theorem xj(s b:Nat)(hb:b<256):(s%256) ^^^ b<256:=Nat.xor_lt_two_pow (n:=8) (kz0 _ (by omega)) hb
theorem step_c(s b:Nat)(w:World)(hs:s<18446744073709551616)(hb:b<256):
 Calls prog 250 #[.int .u64 (s:Int),.int .u8 (b:Int)] w λe w'=>e=.returned (.int .u64 ((Hc s b:Nat):Int))/\w'=w:=by
 have c:=hid (Eu s b hb);have f:=xj s b hb;have a:=u8_xor_nat (s%256) b (kz0 _ (by omega)) hb;rw[Int.natCast_emod] at a;obtain⟨q,d⟩:=xq ((s%256) ^^^ b);rw[d] at c f a;have hx':bits .xor .u8 ((s:Int)%256) (b:Int)=(q:Int):=a;have hs0:(0:Int)<=(s:Int):=by omega
 have ht0:(0:Int)<=(s:Int)-(s:Int)%256:=by omega
 have ht1:(s:Int)-(s:Int)%256<18446744073709551616:=by omega
 have hu0:(0:Int)<=(s:Int)-(s:Int)%256+(q:Int):=by omega
 have hu1:(s:Int)-(s:Int)%256+(q:Int)<18446744073709551616:=by omega
 have g:Hid ((s:Int)-(s:Int)%256+(q:Int)=((s-s%256+q:Nat):Int)):=hid (by omega);clear hs hb d a;go_enter func250,ntmps250;go_wp2;go_ret;refine⟨?_,rfl⟩;rw[c.out,<-mK,kk1,<-g.out];rfl
theorem vw(s:Nat)(A:Option Addr)(l:List Nat)(c n:Nat)(w:World)(hn:l.length=n)(hm:n<=2048)(hs:s<18446744073709551616)(G:RdW w w.heap.size A l)(ho:∀x∈l,x<18446744073709551616):
 Calls prog 199 #[.int .u64 (s:Int),.slice A n c] w λe w'=>e=.returned (.int .u64 (a8 s l:Nat))/\Below w.heap.size w w':=by
 subst hn;have HR:=hid G;have HO:=hid ho;have HS:=hid hs;have hzv:=Ay;clear G ho hs;obtain⟨i0,z,u,a,F⟩:=kzr ld;have HI:=hid z;have HZ0:=hid u;have HZ1:=hid a;have HZ2:=hid F;clear z u a F;go_enter func199,ntmps199;go_wp2_with fail;go_loopw [0,5] (λM i wr=>∃k:Nat,k<=l.length/\i=.int .i64 k/\M=.int .u64 (a8 s (l.take k):Nat)/\Below w.heap.size w wr) (λ_ i _=>l.length-(intOf i).toNat)
 case atStart=>exact⟨0,kqz _,rfl,rfl,kqk _ _⟩
 obtain⟨k,hk,rfl,rfl,J⟩:=hrel;have hz:=J.size;by_cases g:k<l.length
 .obtain ⟨b,O,rfl,hb,S⟩:=RdW.at_ HR.out g;replace S:=(J.cell (p:=⟨b,O+k,none⟩) hb).trans S;have Z:=hid (HO.out l[k] (kqn g));have N:=hid (mS g s);obtain⟨x,T⟩:=xq (l[k]);rw[T] at S Z N;have U:=hid (iY HS.out (l.take k));obtain⟨q,X⟩:=xq (a8 s (l.take k));rw[X] at N U |-;clear T X;have ik1:(0:Int)<=(k:Int):=by omega
  have ik2:(k:Int)<(l.length:Int):=by omega
  go_wp2_with fail;refine (xY x _ Z.out).mono ?_;rintro e K ⟨rfl,R⟩;have D:=J.trans (R.mono hz);have a:=D.size;have L:=Bx.new K 308 iS;have z:(prog.info? 308).map (·.size)=some (ch x 8).size:=by rw[bC];exact Ki
  have I:=kD x 8;have f:=kj L;rw[show iS.size=(ch x 8).size by rw[bC];simp[iS]] at f;have E:=hid (fX L (cs:=ch x 8) (by rw[bC];simp[iS]));have C:=hid (bh a (ch x 8).toList (o:=0) (D.alloc a (.cells iS 308)));clear L;obtain⟨cs,h⟩:=xq (ch x 8);have P:=hid h;rw[h] at z I f E C |-;clear h;go_wp2_with (refine kju rfl _ _ _ rfl K.heap.size 0 cs (by rfl) (by rfl) f z I ?_);go_loopw [0,7] (λM i wr=>∃j:Nat,j<=8/\i=.int .i64 j/\M=.int .u64 (DL q x j:Nat)/\Bx wr K.heap.size 308 cs/\Below w.heap.size w wr) (λ_ i _=>8-(intOf i).toNat)
  case atStart=>exact⟨0,kqz _,rfl,rfl,E.out,C.out⟩
  obtain⟨j,hj,rfl,rfl,m,v⟩:=hrel;by_cases B:j<8
  .have W:=m.cell j;rw[<-P.out,eV x 8 j B,if_pos B] at W;have hf:=m.frozen j;have hlb:=m.lt;have Q:=hid m;have t:=sN x j;have H:=hid (uH U.out x j);have d:Hid (DL q x (j+1)=Hc (DL q x j) (jt x j)):=hid rfl;obtain⟨p,V⟩:=xq (DL q x j);obtain⟨y,Y⟩:=xq (jt x j);rw[V] at H d |-;rw[Y] at t W d;have ij0:(0:Int)<=(j:Int):=by omega
   have ij1:(j:Int)<8:=by omega
   clear V Y m;go_wp2_with fail;refine (step_c p y _ H.out t).mono ?_;rintro e w2 ⟨rfl,rfl⟩;obtain⟨r,G⟩:=xq (Hc p y);rw[G] at d |-;clear G;go_wp2_with fail;refine⟨⟨j+1,by omega,by go_num,by rw[d.out],Q.out,v⟩,by simp[intOf];omega⟩
  obtain rfl:j=8:=by omega
  clear m;go_wp2;go_roundw
  case rel=>exact⟨k+1,by omega,by go_num,by rw[N.out];rfl,v⟩
  case measure=>simp[intOf];omega
 obtain rfl:k=l.length:=by omega
 rw[kzf];go_wp2;go_ret;exact⟨rfl,J⟩
theorem sum_c(A:Option Addr)(l:List Nat)(c n:Nat)(w:World)(hn:l.length=n)(hm:n<=2048)(hr:RdW w w.heap.size A l)(ho:∀x∈l,x<18446744073709551616):
 Calls prog 138 #[.slice A n c] w λe w'=>e=.returned (.int .u64 (a8 14695981039346656037 l:Nat))/\Below w.heap.size w w':=by have g:=hid hr;have f:=hid ho;have h:=hid hn;clear hr ho hn;go_enter func138,ntmps138;go_wp2_with fail;refine (vw 14695981039346656037 A l c n w h.out hm (by omega) g.out f.out).mono ?_;rintro e w1 ⟨rfl,a⟩;obtain⟨q,b⟩:=xq (a8 14695981039346656037 l);have d:=hid b;rw[b];clear b;go_wp2;go_ret;exact⟨by rw[d.out];rfl,a⟩
theorem ww(A:Option Addr)(l:List Nat)(c n:Nat)(w:World)(hn:l.length=n)(hm:n<=2048)(a:RdW w w.heap.size A l)(ho:∀x∈l,x<18446744073709551616):
 Calls prog 140 #[.slice A n c,.int .i64 32] w λe w'=>e=.returned (.int .u64 ((a8 14695981039346656037 l%4294967296:Nat):Int))/\Below w.heap.size w w':=by have k:=hid a;have j:=hid ho;have m:=hid hn;clear a ho hn;go_enter func140,ntmps140;go_wp2_with fail;refine (sum_c A l c n w m.out hm k.out j.out).mono ?_;rintro e i ⟨rfl,d⟩;have b:=hid (iY (s:=14695981039346656037) (by omega) l);obtain⟨q,f⟩:=xq (a8 14695981039346656037 l);have g:=hid f;rw[f] at b |-;clear f;go_wp2_with fail;refine (jT q 0 32 i b.out (by omega)).mono ?_;rintro e w2 ⟨rfl,rfl⟩;obtain⟨r,a⟩:=xq (bI q 0 32);have h:=hid a;rw[a];clear a;go_wp2;go_ret;exact⟨by rw[g.out,<-h.out];simp[bI],d⟩
theorem jW(hw:w<2 ^ f)(hv:v<2 ^ n):jg w f n v=w+v*2 ^ f:=by unfold jg bI;rw[Nat.div_eq_of_lt hw,Nat.zero_mod,kvs,Nat.sub_zero,Nat.mod_eq_of_lt hv]
theorem oG(K T S:Nat)(m:Bool)(w:World)(h1:K<256)(h2:T<128)(h3:S<65536):
 Calls prog 90 #[.int .i64 (K:Int),.bool m,.int .i64 (T:Int),.int .i64 (S:Int)] w λe w'=>e=.returned (.int .u64 ((K+pa m*256+T*512+S*65536+iz (K+pa m*256+T*512+S*65536)%4294967296*4294967296:Nat):Int))/\Below w.heap.size w w':=by
 obtain⟨M,B⟩:=xq (pa m);have hM1:M<2:=by rw[<-B];cases m<;>simp[pa]
 have C:=hid (λW=>tq 0 0 8 K W (by omega) (by omega) (by omega));have G:=jW (w:=0) (f:=0) (n:=8) (v:=K) (by omega) (by omega);have N:=jW (w:=K) (f:=8) (n:=1) (v:=1) (by omega) (by omega);have J:=jW (w:=K+M*256) (f:=9) (n:=7) (v:=T) (by omega) (by omega);have I:=jW (w:=K+M*256+T*512) (f:=16) (n:=16) (v:=S) (by omega) (by omega);have d:K+M*256+T*512+S*65536<4294967296:=by omega
 have s:=hid (kz0 (iz (K+M*256+T*512+S*65536)) (show 4294967296 > 0 by omega));have F:=hid (λW=>tq K 8 1 1 W (by omega) (by omega) (by omega));have l:=hid (λW=>tq (K+M*256) 9 7 T W (by omega) (by omega) (by omega));have k:=hid (λW=>tq (K+M*256+T*512) 16 16 S W (by omega) (by omega) (by omega));rw[show 0+K*2 ^ 0=K by omega] at G;rw[G] at C;rw[N] at F;rw[J] at l;rw[I] at k;have L:=jW (w:=K+M*256+T*512+S*65536) (f:=32) (n:=32) (v:=iz (K+M*256+T*512+S*65536)%4294967296) (by omega) s.out;have o:=hid (λW=>tq (K+M*256+T*512+S*65536) 32 32 (iz (K+M*256+T*512+S*65536)%4294967296) W (by omega) (by have:=s.out;omega) (by omega));rw[L] at o;rw[B];have u:K+1*2 ^ 8=K+256:=by omega
 have t:K+M*256+T*2 ^ 9=K+M*256+T*512:=by omega
 have A:K+M*256+T*512+S*2 ^ 16=K+M*256+T*512+S*65536:=by omega
 rw[u] at F;rw[t] at l;rw[A] at k;clear G N J I L u t A;obtain⟨q,z⟩:=xq (K+M*256);rw[z] at l k o d s |-;obtain⟨D,p⟩:=xq (q+T*512);rw[p] at l k o d s |-;obtain⟨c,r⟩:=xq (D+S*65536);rw[r] at k o d s |-;have i:Hid (m=true->K+256=q):=hid (λh=>by subst h;simp[pa] at B;omega);have j:Hid (m=false->K=q):=hid (λh=>by subst h;simp[pa] at B;omega);clear z p r B;cases m
 .obtain rfl:=j.out rfl;clear j i;go_enter func90,ntmps90;go_wp2_with fail;refine (C.out _).mono ?_;rintro e H ⟨rfl,rfl⟩;go_wp2_with fail;refine (l.out _).mono ?_;rintro e Q ⟨rfl,rfl⟩;go_wp2_with fail;refine (k.out _).mono ?_;rintro e E ⟨rfl,rfl⟩;go_wp2_with fail;have b:=od E [.int .u64 (c:Int)] 53;refine (ww _ [c] _ 1 _ rfl (by omega) (by rw[kqm];exact b) (by intro y x;simp at x;subst x;omega)).mono ?_;rintro e P ⟨rfl,a⟩;rw[kqm] at a;have g:=ay a;rw[show a8 14695981039346656037 [c]=iz c from rfl];clear a b;go_wp2_with fail;refine (o.out _).mono ?_;rintro e O ⟨rfl,rfl⟩;go_wp2;go_ret;exact⟨rfl,g⟩
 obtain rfl:=i.out rfl;clear j i;go_enter func90,ntmps90;go_wp2_with fail;refine (C.out _).mono ?_;rintro e H ⟨rfl,rfl⟩;go_wp2_with fail;refine (F.out _).mono ?_;rintro e H ⟨rfl,rfl⟩;go_wp2_with fail;refine (l.out _).mono ?_;rintro e Q ⟨rfl,rfl⟩;go_wp2_with fail;refine (k.out _).mono ?_;rintro e E ⟨rfl,rfl⟩;go_wp2_with fail;have b:=od E [.int .u64 (c:Int)] 53;refine (ww _ [c] _ 1 _ rfl (by omega) (by rw[kqm];exact b) (by intro y x;simp at x;subst x;omega)).mono ?_;rintro e P ⟨rfl,a⟩;rw[kqm] at a;have g:=ay a;rw[show a8 14695981039346656037 [c]=iz c from rfl];clear a b;go_wp2_with fail;refine (o.out _).mono ?_;rintro e O ⟨rfl,rfl⟩;go_wp2;go_ret;exact⟨rfl,g⟩
end Go.Proofs.YtpcajamacpbjcaaGreat
