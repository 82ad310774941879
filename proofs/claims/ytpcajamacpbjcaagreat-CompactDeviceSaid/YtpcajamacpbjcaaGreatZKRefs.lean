/- Texts laid together: Ref01 Ref05 Ref14W. -/
import Derived.Test.YtpcajamacpbjcaaGreatZKHead
set_option maxHeartbeats 16000000
set_option maxRecDepth 100000
set_option linter.all false
namespace Go.Proofs.YtpcajamacpbjcaaGreat
open Lib (hid)
open Go.RowKit
variable {f n v w:Nat}
open Go.Proofs.Tryz
def bG (w f n:Nat):Nat:=w/2 ^ f%2 ^ n
def iU (w f n v:Nat):Nat:=w-bG w f n*2 ^ f+v%2 ^ n*2 ^ f
theorem mh(w f n:Nat):bG w f (n+1)=bG w f n+w/2 ^ (f+n)%2*2 ^ n:=by unfold bG;rw[kjm,Nat.mod_mul,kxe,<-kj3,kjd (2 ^ n)]
theorem xK(w f n:Nat):bG w f n<2 ^ n:=kzz _ (kvx (by omega))
theorem pH(w f n:Nat):bG w f n*2 ^ f<=w:=by have a:bG w f n<=w/2 ^ f:=Nat.mod_le _ _;exact kz3 (kxu _ a) (Nat.div_mul_le_self _ _)
theorem wO(w f v:Nat):iU w f 0 v=w:=by simp[iU,bG,Nat.mod_one]
theorem sx(w f n v:Nat):iU w f n v/2 ^ (f+n)=w/2 ^ (f+n):=by
 have e:0<2 ^ (f+n):=kvx (by omega);have h1:w=w/2 ^ (f+n)*2 ^ (f+n)+(bG w f n*2 ^ f+w%2 ^ f):=by
  have e1:=kvo w (2 ^ f);have a:=kvo (w/2 ^ f) (2 ^ n);rw[kxe,<-kj3] at a;unfold bG;have b:2 ^ f*(w/2 ^ f)=2 ^ f*(2 ^ n*(w/2 ^ (f+n))+w/2 ^ f%2 ^ n):=by rw[a]
  rw[Nat.mul_add,<-kvm,<-kj3] at b;rw[kjd (w/2 ^ (f+n)),kjd (w/2 ^ f%2 ^ n)];omega
 have g:iU w f n v=w/2 ^ (f+n)*2 ^ (f+n)+(v%2 ^ n*2 ^ f+w%2 ^ f):=by unfold iU;omega
 have h:v%2 ^ n*2 ^ f+w%2 ^ f<2 ^ (f+n):=by have d:v%2 ^ n+1<=2 ^ n:=kzz _ (kvx (by omega));have a2:w%2 ^ f<2 ^ f:=kzz _ (kvx (by omega));have c:(v%2 ^ n+1)*2 ^ f<=2 ^ n*2 ^ f:=kxu _ d;rw[kj3,kjd (2 ^ f)];rw[kjg] at c;omega
 rw[g,kjd,Nat.mul_add_div e,Nat.div_eq_of_lt h,kz8]
theorem wR(w f n v:Nat):iU w f (n+1) v=iU w f n v-iU w f n v/2 ^ (f+n)%2*2 ^ (f+n)+v/2 ^ n%2*2 ^ (f+n)/\iU w f n v/2 ^ (f+n)%2*2 ^ (f+n)<=iU w f n v:=by
 have a:iU w f n v/2 ^ (f+n)%2*2 ^ (f+n)<=iU w f n v:=kz3 (kxu _ (Nat.mod_le _ _)) (Nat.div_mul_le_self _ _);refine⟨?_,a⟩;rw[sx] at a |-;have d:=mh w f n;have b:v%2 ^ (n+1)=v%2 ^ n+v/2 ^ n%2*2 ^ n:=by rw[kjm,Nat.mod_mul,kjd (2 ^ n)]
 have c:=pH w f (n+1);have e4:=pH w f n;unfold iU at a |-;rw[d,kjg,kvm (w/2 ^ (f+n)%2),<-kj3,kju n f] at c |-;rw[b,kjg,kvm (v/2 ^ n%2),<-kj3,kju n f];omega
theorem v7(hw:w<18446744073709551616)(h:f+n<=64):iU w f n v<18446744073709551616:=by
 have a:0<2 ^ (f+n):=kvx (by omega);have e:18446744073709551616=2 ^ (64-(f+n))*2 ^ (f+n):=by rw[<-kj3,show 64-(f+n)+(f+n)=64 by omega]
 rw[e,<-Nat.div_lt_iff_lt_mul a] at hw |-;rw[sx];exact hw
theorem sj(h:f+n<=64):bG w f n<18446744073709551616:=
 kjs (xK w f n) (show 2 ^ n<=2 ^ 64 from kja (by omega) (by omega))
theorem Ih(x i:Nat)(w:World)(hx:x<18446744073709551616)(hi:i<=64):
 Calls prog 200 #[.int .u64 (x:Int),.int .i64 (i:Int)] w λe w'=>e=.returned (.int .u64 ((x/2 ^ i%2:Nat):Int))/\w'=w:=by
 have f:=hid hx;clear hx;go_enter func200,ntmps200;go_wp2_with fail;go_loopw [0,5] (λv k wr=>∃j:Nat,j<=i/\k=.int .i64 j/\v=.int .u64 ((x/2 ^ j:Nat):Int)/\wr=w) (λ_ k _=>i-(intOf k).toNat)
 case atStart=>exact⟨0,kqy _,rfl,by simp,rfl⟩
 obtain⟨j,hj,rfl,rfl,rfl⟩:=hrel;obtain⟨y,a⟩:=xq (x/2 ^ j);rw[a];have hy0:(0:Int)<=(y:Int):=by omega
 have c:=hid a;have b:=hid (show y<18446744073709551616 by rw[<-a];exact kkf (kk3 _ _) f.out);clear a;by_cases hlt:j<i
 .have ik1:(j:Int)<(i:Int):=by omega
  have hy1:(y:Int)/2<18446744073709551616:=by have:=b.out;omega
  have hy2:(0:Int)<=(y:Int)/2:=by omega
  have d:Hid (x/2 ^ (j+1)=y/2):=hid (by rw[<-c.out,kjm,kxe]);go_wp2;go_roundw
  case rel=>exact⟨j+1,by omega,by go_num,by rw[d.out];go_num,trivial⟩
  case measure=>simp[intOf];omega
 obtain rfl:j=i:=by omega
 go_wp2;go_ret;rw[c.out];exact⟨by go_num,rfl⟩
theorem At(i:Nat)(w:World)(hi:i<64):
 Calls prog 201 #[.int .i64 (i:Int)] w λe w'=>e=.returned (.int .u64 ((2 ^ i:Nat):Int))/\w'=w:=by
 go_enter func201,ntmps201;go_wp2_with fail;go_loopw [3,4] (λv k wr=>∃j:Nat,j<=i/\k=.int .i64 j/\v=.int .u64 ((2 ^ j:Nat):Int)/\wr=w) (λ_ k _=>i-(intOf k).toNat)
 case atStart=>exact⟨0,kqy _,rfl,rfl,rfl⟩
 obtain⟨j,hj,rfl,rfl,rfl⟩:=hrel;obtain⟨y,a⟩:=xq (2 ^ j);rw[a];have hy0:(0:Int)<=(y:Int):=by omega
 have b:=hid a;by_cases hlt:j<i
 .have ik1:(j:Int)<(i:Int):=by omega
  have hy1:(y:Int)*2<18446744073709551616:=by have d:2 ^ (j+1)<=2 ^ 63:=kja (by omega) (by omega);rw[kjm,a] at d;omega
  have c:Hid (2 ^ (j+1)=y*2):=hid (by rw[<-b.out,kjm]);clear a;go_wp2;go_roundw
  case rel=>exact⟨j+1,by omega,by go_num,by rw[c.out];go_num,trivial⟩
  case measure=>simp[intOf];omega
 obtain rfl:j=i:=by omega
 clear a;go_wp2;go_ret;rw[b.out];exact⟨by go_num,rfl⟩
theorem jq(x f n:Nat)(w:World)(hx:x<18446744073709551616)(hi:f+n<=64):
 Calls prog 202 #[.int .u64 (x:Int),.int .i64 (f:Int),.int .i64 (n:Int)] w λe w'=>e=.returned (.int .u64 ((bG x f n:Nat):Int))/\w'=w:=by
 have u:=hid hx;clear hx;go_enter func202,ntmps202;go_wp2_with fail;go_loopw [7,8] (λv k wr=>∃j:Nat,j<=n/\k=.int .i64 j/\v=.int .u64 ((bG x f j:Nat):Int)/\wr=w) (λ_ k _=>n-(intOf k).toNat)
 case atStart=>exact⟨0,kqy _,rfl,by simp[bG,Nat.mod_one],rfl⟩
 obtain⟨j,hj,rfl,rfl,rfl⟩:=hrel;obtain⟨y,c⟩:=xq (bG x f j);rw[c];have hy0:(0:Int)<=(y:Int):=by omega
 by_cases hlt:j<n
 .have ik1:(j:Int)<(n:Int):=by omega
  have g:=Ih x (f+j) wr u.out (by omega);have m:=At j wr (by omega);have a:=mh x f j;have i:=sj (w:=x) (f:=f) (n:=j+1) (by omega);obtain⟨b,h⟩:=xq (x/2 ^ (f+j)%2);obtain⟨p,l⟩:=xq (2 ^ j);rw[h,kjn] at g;rw[l] at m;rw[c,h,l] at a;rw[a] at i;obtain⟨q,d⟩:=xq (b*p);rw[d] at a i;have o:(b:Int)*(p:Int)=(q:Int):=by rw[<-d,kk1]
  have hm0:(0:Int)<=(b:Int)*(p:Int):=by omega
  have hm1:(b:Int)*(p:Int)<18446744073709551616:=by omega
  have hs0:(0:Int)<=(y:Int)+(b:Int)*(p:Int):=by omega
  have hs1:(y:Int)+(b:Int)*(p:Int)<18446744073709551616:=by omega
  have s:=hid o;have z:=hid g;have t:=hid m;have A:=hid a;clear h l d c g m a i o;go_wp2_with fail;refine z.out.mono ?_;rintro e w1 ⟨rfl,rfl⟩;go_wp2_with fail;refine t.out.mono ?_;rintro e w2 ⟨rfl,rfl⟩;go_wp2;go_roundw
  case rel=>exact⟨j+1,by omega,by go_num,by rw[A.out,s.out];go_num,trivial⟩
  case measure=>simp[intOf];omega
 obtain rfl:j=n:=by omega
 have r:=hid c;clear c;go_wp2;go_ret;rw[r.out];exact⟨by go_num,rfl⟩
theorem ri(x f n v:Nat)(w:World)(hx:x<18446744073709551616)(hv:v<18446744073709551616)(hi:f+n<=64):
 Calls prog 139 #[.int .u64 (x:Int),.int .i64 (f:Int),.int .i64 (n:Int),.int .u64 (v:Int)] w λe w'=>e=.returned (.int .u64 ((iU x f n v:Nat):Int))/\w'=w:=by
 have E:=hid hx;have G:=hid hv;clear hx hv;go_enter func139,ntmps139;go_wp2_with fail;go_loopw [0,9] (λu k wr=>∃j:Nat,j<=n/\k=.int .i64 j/\u=.int .u64 ((iU x f j v:Nat):Int)/\wr=w) (λ_ k _=>n-(intOf k).toNat)
 case atStart=>exact⟨0,kqy _,rfl,by rw[wO],rfl⟩
 obtain⟨j,hj,rfl,rfl,rfl⟩:=hrel;obtain⟨y,h⟩:=xq (iU x f j v);rw[h];have hy0:(0:Int)<=(y:Int):=by omega
 by_cases hlt:j<n
 .have ik1:(j:Int)<(n:Int):=by omega
  have d:=v7 (v:=v) E.out (show f+j<=64 by omega);rw[h] at d;have s:=Ih y (f+j) wr d (by omega);have B:=At (f+j) wr (by omega);have t:=Ih v j wr G.out (by omega);obtain⟨g,a⟩:=wR x f j v;have m:=v7 (v:=v) E.out (show f+(j+1)<=64 by omega);rw[h] at g a;rw[g] at m;obtain⟨b,l⟩:=xq (y/2 ^ (f+j)%2);obtain⟨p,o⟩:=xq (2 ^ (f+j));obtain⟨c,A⟩:=xq (v/2 ^ j%2);rw[l,kjn] at s;rw[o,kjn] at B;rw[A] at t;rw[l,o,A] at g m;rw[l,o] at a;obtain⟨q,i⟩:=xq (b*p);obtain⟨r,z⟩:=xq (c*p);rw[i,z] at g m;rw[i] at a;have I:(b:Int)*(p:Int)=(q:Int):=by rw[<-i,kk1]
  have K:(c:Int)*(p:Int)=(r:Int):=by rw[<-z,kk1]
  have hm0:(0:Int)<=(b:Int)*(p:Int):=by omega
  have hm1:(b:Int)*(p:Int)<18446744073709551616:=by omega
  have hn0:(0:Int)<=(c:Int)*(p:Int):=by omega
  have hn1:(c:Int)*(p:Int)<18446744073709551616:=by omega
  have ht0:(0:Int)<=(y:Int)-(b:Int)*(p:Int):=by omega
  have ht1:(y:Int)-(b:Int)*(p:Int)<18446744073709551616:=by omega
  have hs0:(0:Int)<=(y:Int)-(b:Int)*(p:Int)+(c:Int)*(p:Int):=by omega
  have hs1:(y:Int)-(b:Int)*(p:Int)+(c:Int)*(p:Int)<18446744073709551616:=by omega
  have C:(((y-q+r:Nat):Int))=(y:Int)-(b:Int)*(p:Int)+(c:Int)*(p:Int):=by omega
  have J:=hid C;have L:=hid s;have D:=hid B;have M:=hid g;have F:=hid t;clear l o A i z h s B g a m t I K C d;go_wp2_with fail;refine L.out.mono ?_;rintro e w1 ⟨rfl,rfl⟩;go_wp2_with fail;refine D.out.mono ?_;rintro e w2 ⟨rfl,rfl⟩;go_wp2_with fail;refine F.out.mono ?_;rintro e w3 ⟨rfl,rfl⟩;go_wp2_with fail;refine D.out.mono ?_;rintro e w4 ⟨rfl,rfl⟩;go_wp2;go_roundw
  case rel=>exact⟨j+1,by omega,by go_num,by rw[M.out,J.out],trivial⟩
  case measure=>simp[intOf];omega
 obtain rfl:j=n:=by omega
 have H:=hid h;clear h;go_wp2;go_ret;rw[H.out];exact⟨by go_num,rfl⟩
theorem xo(x:Nat)(w:World)(hx:x<18446744073709551616):
 Calls prog 249 #[.int .u64 (x:Int)] w λe w'=>e=.returned (.agg (ce x 8))/\Below w.heap.size w w':=by
 have hzv:=za;have C:=hid hx;clear hx;go_enter func249,ntmps249;go_wp2_with fail;go_loopw [0,4] (λv i wr=>∃k:Nat,k<=8/\i=.int .i64 k/\v=.int .u64 ((x/256 ^ k:Nat):Int)/\Bx wr w.heap.size 308 ir/\Bx wr (w.heap.size+1) 308 (ce x k)/\Below w.heap.size w wr) (λ_ i _=>8-(intOf i).toNat)
 case atStart =>
  refine⟨0,kqy _,rfl,by simp,(Bx.new w _ _).alloc _,?_,((kqk _ _).alloc (kqa _) _).alloc (by simp) _⟩;have:=Bx.new (w.alloc (.cells ir 308)) 308 ir;rw[kqm] at this;rw[<-vm];exact this
 obtain⟨k,hk,rfl,rfl,l,f,t⟩:=hrel;have hz:=t.size;by_cases h:k<8
 .have B:=f.cell k;rw[eM _ _ _ h] at B;have hf:=f.frozen k;have s:=hid (nr x k h);have a:=hid f;have u:=hid l;have ik0:(0:Int)<=(k:Int):=by omega
  have ik1:(k:Int)<8:=by omega
  obtain⟨y,b⟩:=xq (x/256 ^ k);have r:Hid (y<18446744073709551616):=hid (by rw[<-b];exact kkf (kk3 _ _) C.out);have q:Hid (ja x k=y%256):=hid (by rw[<-b];rfl);have A:Hid (x/256 ^ (k+1)=y/256):=hid (by rw[<-b,kjm,kxe]);have hy0:(0:Int)<=(y:Int):=by omega
  have hy1:(y:Int)/256<18446744073709551616:=by have:=r.out;omega
  have hy2:(0:Int)<=(y:Int)/256:=by omega
  rw[b];clear l f b;go_wp2_with fail;refine⟨⟨k+1,by omega,by go_num,by rw[A.out];go_num,u.out.far (p:=⟨w.heap.size+1,k,none⟩) (by dsimp only;omega) _,?_,t.setCell (p:=⟨w.heap.size+1,k,none⟩) (by dsimp only;omega) _⟩,by simp[intOf];omega⟩;rw[<-s.out,q.out];exact a.out.set_ k _
 obtain rfl:k=8:=by omega
 have n:(prog.info? 308).map (·.size)=some (ce x 8).size:=by rw[bA];exact GK
 have g:=kp x 8;have d:=jK l;rw[show ir.size=(ce x 8).size by rw[bA];simp[ir]] at d;have j:=hid (fF l (cs:=ce x 8) (by rw[bA];simp[ir]));have a:=hid f;have m:=hid (a9 (kqa _) (ce x 8).toList (o:=0) t);clear l f;obtain⟨cs,c⟩:=xq (ce x 8);have z:=hid c;rw[c] at n g d j a m;obtain⟨y,b⟩:=xq (x/256 ^ 8);rw[b];clear c b;go_wp2_with (first
  | (refine kxh rfl _ _ rfl (w.heap.size+1) (by rfl) 308 cs (0,0) _ a.out underlying308 (by rfl) n ?_)
  | (refine kjt rfl _ _ _ rfl w.heap.size 0 cs (by rfl) (by rfl) d n g ?_))
 exact kqo (v:=.agg cs) (results_cell_row rfl _ _ w.heap.size _ cs (0,0) _ (by rfl) j.out underlying308 (by rfl) n) rfl ⟨by rw[z.out],m.out⟩
theorem EX(s b:Nat)(hb:b<256):Gb s b=(s-s%256+((s%256) ^^^ b))*1099511628211%18446744073709551616:=by rw[JC s b hb];rfl
theorem yt(s b:Nat)(hb:b<256):(s%256) ^^^ b<256:=Nat.xor_lt_two_pow (n:=8) (kzz _ (by omega)) hb
theorem step_c(s b:Nat)(w:World)(hs:s<18446744073709551616)(hb:b<256):
 Calls prog 250 #[.int .u64 (s:Int),.int .u8 (b:Int)] w λe w'=>e=.returned (.int .u64 ((Gb s b:Nat):Int))/\w'=w:=by
 have c:=hid (EX s b hb);have f:=yt s b hb;have a:=u8_xor_nat (s%256) b (kzz _ (by omega)) hb;rw[Int.natCast_emod] at a;obtain⟨q,d⟩:=xq ((s%256) ^^^ b);rw[d] at c f a;have hx':bits .xor .u8 ((s:Int)%256) (b:Int)=(q:Int):=a;have hs0:(0:Int)<=(s:Int):=by omega
 have ht0:(0:Int)<=(s:Int)-(s:Int)%256:=by omega
 have ht1:(s:Int)-(s:Int)%256<18446744073709551616:=by omega
 have hu0:(0:Int)<=(s:Int)-(s:Int)%256+(q:Int):=by omega
 have hu1:(s:Int)-(s:Int)%256+(q:Int)<18446744073709551616:=by omega
 have g:Hid ((s:Int)-(s:Int)%256+(q:Int)=((s-s%256+q:Nat):Int)):=hid (by omega);clear hs hb d a;go_enter func250,ntmps250;go_wp2;go_ret;refine⟨?_,rfl⟩;rw[c.out,<-mr,kk1,<-g.out];rfl
theorem vC(s:Nat)(A:Option Addr)(l:List Nat)(c n:Nat)(w:World)(hn:l.length=n)(hm:n<=2048)(hs:s<18446744073709551616)(C:RdW w w.heap.size A l)(ho:∀x∈l,x<18446744073709551616):
 Calls prog 199 #[.int .u64 (s:Int),.slice A n c] w λe w'=>e=.returned (.int .u64 (aY s l:Nat))/\Below w.heap.size w w':=by
 subst hn;have HR:=hid C;have HO:=hid ho;have HS:=hid hs;have hzv:=za;clear C ho hs;obtain⟨i0,D,v,a,F⟩:=kzw kO;have HI:=hid D;have HZ0:=hid v;have HZ1:=hid a;have HZ2:=hid F;clear D v a F;go_enter func199,ntmps199;go_wp2_with fail;go_loopw [0,5] (λK i wr=>∃k:Nat,k<=l.length/\i=.int .i64 k/\K=.int .u64 (aY s (l.take k):Nat)/\Below w.heap.size w wr) (λ_ i _=>l.length-(intOf i).toNat)
 case atStart=>exact⟨0,kqy _,rfl,rfl,kqk _ _⟩
 obtain⟨k,hk,rfl,rfl,J⟩:=hrel;have hz:=J.size;by_cases g:k<l.length
 .obtain ⟨b,Q,rfl,hb,M⟩:=RdW.at_ HR.out g;replace M:=(J.cell (p:=⟨b,Q+k,none⟩) hb).trans M;have X:=hid (HO.out l[k] (kqq g));have N:=hid (mw g s);obtain⟨x,T⟩:=xq (l[k]);rw[T] at M X N;have V:=hid (iE HS.out (l.take k));obtain⟨q,U⟩:=xq (aY s (l.take k));rw[U] at N V |-;clear T U;have ik1:(0:Int)<=(k:Int):=by omega
  have ik2:(k:Int)<(l.length:Int):=by omega
  go_wp2_with fail;refine (xo x _ X.out).mono ?_;rintro e S ⟨rfl,L⟩;have t:=J.trans (L.mono hz);have a:=t.size;have R:=Bx.new S 308 ir;have D:(prog.info? 308).map (·.size)=some (ce x 8).size:=by rw[bA];exact GK
  have z:=kp x 8;have h:=jK R;rw[show ir.size=(ce x 8).size by rw[bA];simp[ir]] at h;have B:=hid (fF R (cs:=ce x 8) (by rw[bA];simp[ir]));have E:=hid (a9 a (ce x 8).toList (o:=0) (t.alloc a (.cells ir 308)));clear R;obtain⟨cs,f⟩:=xq (ce x 8);have P:=hid f;rw[f] at D z h B E |-;clear f;go_wp2_with (refine kjt rfl _ _ _ rfl S.heap.size 0 cs (by rfl) (by rfl) h D z ?_);go_loopw [0,7] (λK i wr=>∃j:Nat,j<=8/\i=.int .i64 j/\K=.int .u64 (Cg q x j:Nat)/\Bx wr S.heap.size 308 cs/\Below w.heap.size w wr) (λ_ i _=>8-(intOf i).toNat)
  case atStart=>exact⟨0,kqy _,rfl,rfl,B.out,E.out⟩
  obtain⟨j,hj,rfl,rfl,m,H⟩:=hrel;by_cases I:j<8
  .have W:=m.cell j;rw[<-P.out,eM x 8 j I,if_pos I] at W;have hf:=m.frozen j;have hlb:=m.lt;have O:=hid m;have G:=rM x j;have u:=hid (tf V.out x j);have d:Hid (Cg q x (j+1)=Gb (Cg q x j) (ja x j)):=hid rfl;obtain⟨p,Y⟩:=xq (Cg q x j);obtain⟨y,Z⟩:=xq (ja x j);rw[Y] at u d |-;rw[Z] at G W d;have ij0:(0:Int)<=(j:Int):=by omega
   have ij1:(j:Int)<8:=by omega
   clear Y Z m;go_wp2_with fail;refine (step_c p y _ u.out G).mono ?_;rintro e w2 ⟨rfl,rfl⟩;obtain⟨r,C⟩:=xq (Gb p y);rw[C] at d |-;clear C;go_wp2_with fail;refine⟨⟨j+1,by omega,by go_num,by rw[d.out],O.out,H⟩,by simp[intOf];omega⟩
  obtain rfl:j=8:=by omega
  clear m;go_wp2;go_roundw
  case rel=>exact⟨k+1,by omega,by go_num,by rw[N.out];rfl,H⟩
  case measure=>simp[intOf];omega
 obtain rfl:k=l.length:=by omega
 rw[kzl];go_wp2;go_ret;exact⟨rfl,J⟩
theorem sum_c(A:Option Addr)(l:List Nat)(c n:Nat)(w:World)(hn:l.length=n)(hm:n<=2048)(hr:RdW w w.heap.size A l)(ho:∀x∈l,x<18446744073709551616):
 Calls prog 138 #[.slice A n c] w λe w'=>e=.returned (.int .u64 (aY 14695981039346656037 l:Nat))/\Below w.heap.size w w':=by have g:=hid hr;have f:=hid ho;have h:=hid hn;clear hr ho hn;go_enter func138,ntmps138;go_wp2_with fail;refine (vC 14695981039346656037 A l c n w h.out hm (by omega) g.out f.out).mono ?_;rintro e w1 ⟨rfl,a⟩;obtain⟨q,b⟩:=xq (aY 14695981039346656037 l);have d:=hid b;rw[b];clear b;go_wp2;go_ret;exact⟨by rw[d.out];rfl,a⟩
theorem vh(A:Option Addr)(l:List Nat)(c n:Nat)(w:World)(hn:l.length=n)(hm:n<=2048)(a:RdW w w.heap.size A l)(ho:∀x∈l,x<18446744073709551616):
 Calls prog 140 #[.slice A n c,.int .i64 32] w λe w'=>e=.returned (.int .u64 ((aY 14695981039346656037 l%4294967296:Nat):Int))/\Below w.heap.size w w':=by have j:=hid a;have i:=hid ho;have k:=hid hn;clear a ho hn;go_enter func140,ntmps140;go_wp2_with fail;refine (sum_c A l c n w k.out hm j.out i.out).mono ?_;rintro e m ⟨rfl,d⟩;have b:=hid (iE (s:=14695981039346656037) (by omega) l);obtain⟨q,f⟩:=xq (aY 14695981039346656037 l);have g:=hid f;rw[f] at b |-;clear f;go_wp2_with fail;refine (jq q 0 32 m b.out (by omega)).mono ?_;rintro e w2 ⟨rfl,rfl⟩;obtain⟨r,a⟩:=xq (bG q 0 32);have h:=hid a;rw[a];clear a;go_wp2;go_ret;exact⟨by rw[g.out,<-h.out];simp[bG],d⟩
theorem jr(hw:w<2 ^ f)(hv:v<2 ^ n):iU w f n v=w+v*2 ^ f:=by unfold iU bG;rw[Nat.div_eq_of_lt hw,Nat.zero_mod,kvu,Nat.sub_zero,Nat.mod_eq_of_lt hv]
theorem nJ(K T S:Nat)(m:Bool)(w:World)(h1:K<256)(h2:T<128)(h3:S<65536):
 Calls prog 90 #[.int .i64 (K:Int),.bool m,.int .i64 (T:Int),.int .i64 (S:Int)] w λe w'=>e=.returned (.int .u64 ((K+ov m*256+T*512+S*65536+ig (K+ov m*256+T*512+S*65536)%4294967296*4294967296:Nat):Int))/\Below w.heap.size w w':=by
 obtain⟨M,q⟩:=xq (ov m);have hM1:M<2:=by rw[<-q];cases m<;>simp[ov]
 have G:=hid (λW=>ri 0 0 8 K W (by omega) (by omega) (by omega));have E:=jr (w:=0) (f:=0) (n:=8) (v:=K) (by omega) (by omega);have H:=jr (w:=K) (f:=8) (n:=1) (v:=1) (by omega) (by omega);have J:=jr (w:=K+M*256) (f:=9) (n:=7) (v:=T) (by omega) (by omega);have L:=jr (w:=K+M*256+T*512) (f:=16) (n:=16) (v:=S) (by omega) (by omega);have i:K+M*256+T*512+S*65536<4294967296:=by omega
 have p:=hid (kzz (ig (K+M*256+T*512+S*65536)) (show 4294967296 > 0 by omega));have C:=hid (λW=>ri K 8 1 1 W (by omega) (by omega) (by omega));have l:=hid (λW=>ri (K+M*256) 9 7 T W (by omega) (by omega) (by omega));have g:=hid (λW=>ri (K+M*256+T*512) 16 16 S W (by omega) (by omega) (by omega));rw[show 0+K*2 ^ 0=K by omega] at E;rw[E] at G;rw[H] at C;rw[J] at l;rw[L] at g;have I:=jr (w:=K+M*256+T*512+S*65536) (f:=32) (n:=32) (v:=ig (K+M*256+T*512+S*65536)%4294967296) (by omega) p.out;have o:=hid (λW=>ri (K+M*256+T*512+S*65536) 32 32 (ig (K+M*256+T*512+S*65536)%4294967296) W (by omega) (by have:=p.out;omega) (by omega));rw[I] at o;rw[q];have A:K+1*2 ^ 8=K+256:=by omega
 have u:K+M*256+T*2 ^ 9=K+M*256+T*512:=by omega
 have r:K+M*256+T*512+S*2 ^ 16=K+M*256+T*512+S*65536:=by omega
 rw[A] at C;rw[u] at l;rw[r] at g;clear E H J L I A u r;obtain⟨s,x⟩:=xq (K+M*256);rw[x] at l g o i p |-;obtain⟨D,t⟩:=xq (s+T*512);rw[t] at l g o i p |-;obtain⟨c,z⟩:=xq (D+S*65536);rw[z] at g o i p |-;have j:Hid (m=true->K+256=s):=hid (λh=>by subst h;simp[ov] at q;omega);have k:Hid (m=false->K=s):=hid (λh=>by subst h;simp[ov] at q;omega);clear x t z q;cases m
 .obtain rfl:=k.out rfl;clear k j;go_enter func90,ntmps90;go_wp2_with fail;refine (G.out _).mono ?_;rintro e N ⟨rfl,rfl⟩;go_wp2_with fail;refine (l.out _).mono ?_;rintro e P ⟨rfl,rfl⟩;go_wp2_with fail;refine (g.out _).mono ?_;rintro e F ⟨rfl,rfl⟩;go_wp2_with fail;have b:=nw F [.int .u64 (c:Int)] 53;refine (vh _ [c] _ 1 _ rfl (by omega) (by rw[kqm];exact b) (by intro y B;simp at B;subst B;omega)).mono ?_;rintro e O ⟨rfl,a⟩;rw[kqm] at a;have d:=aw a;rw[show aY 14695981039346656037 [c]=ig c from rfl];clear a b;go_wp2_with fail;refine (o.out _).mono ?_;rintro e Q ⟨rfl,rfl⟩;go_wp2;go_ret;exact⟨rfl,d⟩
 obtain rfl:=j.out rfl;clear k j;go_enter func90,ntmps90;go_wp2_with fail;refine (G.out _).mono ?_;rintro e N ⟨rfl,rfl⟩;go_wp2_with fail;refine (C.out _).mono ?_;rintro e N ⟨rfl,rfl⟩;go_wp2_with fail;refine (l.out _).mono ?_;rintro e P ⟨rfl,rfl⟩;go_wp2_with fail;refine (g.out _).mono ?_;rintro e F ⟨rfl,rfl⟩;go_wp2_with fail;have b:=nw F [.int .u64 (c:Int)] 53;refine (vh _ [c] _ 1 _ rfl (by omega) (by rw[kqm];exact b) (by intro y B;simp at B;subst B;omega)).mono ?_;rintro e O ⟨rfl,a⟩;rw[kqm] at a;have d:=aw a;rw[show aY 14695981039346656037 [c]=ig c from rfl];clear a b;go_wp2_with fail;refine (o.out _).mono ?_;rintro e Q ⟨rfl,rfl⟩;go_wp2;go_ret;exact⟨rfl,d⟩
end Go.Proofs.YtpcajamacpbjcaaGreat
