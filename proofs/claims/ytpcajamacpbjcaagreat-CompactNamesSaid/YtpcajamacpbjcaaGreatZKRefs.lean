/- Texts laid together: Ref01 Ref05 Ref14W. -/
import Derived.Test.YtpcajamacpbjcaaGreatZKHead
set_option maxHeartbeats 16000000
set_option maxRecDepth 100000
set_option linter.all false
namespace Go.Proofs.YtpcajamacpbjcaaGreat
open Lib (hid)
open Go.RowKit
variable {f n v w:Nat}
open Go.Proofs.Tryz
def dl (w f n:Nat):Nat:=w/2 ^ f%2 ^ n
def iG (w f n v:Nat):Nat:=w-dl w f n*2 ^ f+v%2 ^ n*2 ^ f
theorem lS(w f n:Nat):dl w f (n+1)=dl w f n+w/2 ^ (f+n)%2*2 ^ n:=by unfold dl;rw[kj0,Nat.mod_mul,kjn,<-kkf,kj9 (2 ^ n)]
theorem wV(w f n:Nat):dl w f n<2 ^ n:=kz4 _ (kvn (by omega))
theorem oe(w f n:Nat):dl w f n*2 ^ f<=w:=by have a:dl w f n<=w/2 ^ f:=Nat.mod_le _ _;exact kz1 (kxn _ a) (Nat.div_mul_le_self _ _)
theorem wk(w f v:Nat):iG w f 0 v=w:=by simp[iG,dl,Nat.mod_one]
theorem qu(w f n v:Nat):iG w f n v/2 ^ (f+n)=w/2 ^ (f+n):=by
 have d:0<2 ^ (f+n):=kvn (by omega);have h1:w=w/2 ^ (f+n)*2 ^ (f+n)+(dl w f n*2 ^ f+w%2 ^ f):=by
  have e1:=Nat.div_add_mod w (2 ^ f);have a:=Nat.div_add_mod (w/2 ^ f) (2 ^ n);rw[kjn,<-kkf] at a;unfold dl;have h:2 ^ f*(w/2 ^ f)=2 ^ f*(2 ^ n*(w/2 ^ (f+n))+w/2 ^ f%2 ^ n):=by rw[a]
  rw[Nat.mul_add,<-kvo,<-kkf] at h;rw[kj9 (w/2 ^ (f+n)),kj9 (w/2 ^ f%2 ^ n)];omega
 have b:iG w f n v=w/2 ^ (f+n)*2 ^ (f+n)+(v%2 ^ n*2 ^ f+w%2 ^ f):=by unfold iG;omega
 have c:v%2 ^ n*2 ^ f+w%2 ^ f<2 ^ (f+n):=by have e:v%2 ^ n+1<=2 ^ n:=kz4 _ (kvn (by omega));have a2:w%2 ^ f<2 ^ f:=kz4 _ (kvn (by omega));have g:(v%2 ^ n+1)*2 ^ f<=2 ^ n*2 ^ f:=kxn _ e;rw[kkf,kj9 (2 ^ f)];rw[kjd] at g;omega
 rw[b,kj9,Nat.mul_add_div d,Nat.div_eq_of_lt c,kz8]
theorem vr(w f n v:Nat):iG w f (n+1) v=iG w f n v-iG w f n v/2 ^ (f+n)%2*2 ^ (f+n)+v/2 ^ n%2*2 ^ (f+n)/\iG w f n v/2 ^ (f+n)%2*2 ^ (f+n)<=iG w f n v:=by
 have a:iG w f n v/2 ^ (f+n)%2*2 ^ (f+n)<=iG w f n v:=kz1 (kxn _ (Nat.mod_le _ _)) (Nat.div_mul_le_self _ _);refine⟨?_,a⟩;rw[qu] at a |-;have d:=lS w f n;have b:v%2 ^ (n+1)=v%2 ^ n+v/2 ^ n%2*2 ^ n:=by rw[kj0,Nat.mod_mul,kj9 (2 ^ n)]
 have c:=oe w f (n+1);have e4:=oe w f n;unfold iG at a |-;rw[d,kjd,kvo (w/2 ^ (f+n)%2),<-kkf,kj1 n f] at c |-;rw[b,kjd,kvo (v/2 ^ n%2),<-kkf,kj1 n f];omega
theorem uo(hw:w<18446744073709551616)(h:f+n<=64):iG w f n v<18446744073709551616:=by
 have a:0<2 ^ (f+n):=kvn (by omega);have e:18446744073709551616=2 ^ (64-(f+n))*2 ^ (f+n):=by rw[<-kkf,show 64-(f+n)+(f+n)=64 by omega]
 rw[e,<-Nat.div_lt_iff_lt_mul a] at hw |-;rw[qu];exact hw
theorem rj(h:f+n<=64):dl w f n<18446744073709551616:=
 kjb (wV w f n) (show 2 ^ n<=2 ^ 64 from kxz (by omega) (by omega))
theorem GS(x i:Nat)(w:World)(hx:x<18446744073709551616)(hi:i<=64):
 Calls prog 200 #[.int .u64 (x:Int),.int .i64 (i:Int)] w λe w'=>e=.returned (.int .u64 ((x/2 ^ i%2:Nat):Int))/\w'=w:=by
 have f:=hid hx;clear hx;go_enter func200,ntmps200;go_wp2_with fail;go_loopw [0,5] (λv k wr=>∃j:Nat,j<=i/\k=.int .i64 j/\v=.int .u64 ((x/2 ^ j:Nat):Int)/\wr=w) (λ_ k _=>i-(intOf k).toNat)
 case atStart=>exact⟨0,kqy _,rfl,by simp,rfl⟩
 obtain⟨j,hj,rfl,rfl,rfl⟩:=hrel;obtain⟨y,a⟩:=xq (x/2 ^ j);rw[a];have hy0:(0:Int)<=(y:Int):=by omega
 have c:=hid a;have b:=hid (show y<18446744073709551616 by rw[<-a];exact kvk (Nat.div_le_self _ _) f.out);clear a;by_cases hlt:j<i
 .have ik1:(j:Int)<(i:Int):=by omega
  have hy1:(y:Int)/2<18446744073709551616:=by have:=b.out;omega
  have hy2:(0:Int)<=(y:Int)/2:=by omega
  have d:Hid (x/2 ^ (j+1)=y/2):=hid (by rw[<-c.out,kj0,kjn]);go_wp2;go_roundw
  case rel=>exact⟨j+1,by omega,by go_num,by rw[d.out];go_num,trivial⟩
  case measure=>simp[intOf];omega
 obtain rfl:j=i:=by omega
 go_wp2;go_ret;rw[c.out];exact⟨by go_num,rfl⟩
theorem Ap(i:Nat)(w:World)(hi:i<64):
 Calls prog 201 #[.int .i64 (i:Int)] w λe w'=>e=.returned (.int .u64 ((2 ^ i:Nat):Int))/\w'=w:=by
 go_enter func201,ntmps201;go_wp2_with fail;go_loopw [3,4] (λv k wr=>∃j:Nat,j<=i/\k=.int .i64 j/\v=.int .u64 ((2 ^ j:Nat):Int)/\wr=w) (λ_ k _=>i-(intOf k).toNat)
 case atStart=>exact⟨0,kqy _,rfl,rfl,rfl⟩
 obtain⟨j,hj,rfl,rfl,rfl⟩:=hrel;obtain⟨y,a⟩:=xq (2 ^ j);rw[a];have hy0:(0:Int)<=(y:Int):=by omega
 have b:=hid a;by_cases hlt:j<i
 .have ik1:(j:Int)<(i:Int):=by omega
  have hy1:(y:Int)*2<18446744073709551616:=by have d:2 ^ (j+1)<=2 ^ 63:=kxz (by omega) (by omega);rw[kj0,a] at d;omega
  have c:Hid (2 ^ (j+1)=y*2):=hid (by rw[<-b.out,kj0]);clear a;go_wp2;go_roundw
  case rel=>exact⟨j+1,by omega,by go_num,by rw[c.out];go_num,trivial⟩
  case measure=>simp[intOf];omega
 obtain rfl:j=i:=by omega
 clear a;go_wp2;go_ret;rw[b.out];exact⟨by go_num,rfl⟩
theorem F3(x f n:Nat)(w:World)(hx:x<18446744073709551616)(hi:f+n<=64):
 Calls prog 202 #[.int .u64 (x:Int),.int .i64 (f:Int),.int .i64 (n:Int)] w λe w'=>e=.returned (.int .u64 ((dl x f n:Nat):Int))/\w'=w:=by
 have u:=hid hx;clear hx;go_enter func202,ntmps202;go_wp2_with fail;go_loopw [7,8] (λv k wr=>∃j:Nat,j<=n/\k=.int .i64 j/\v=.int .u64 ((dl x f j:Nat):Int)/\wr=w) (λ_ k _=>n-(intOf k).toNat)
 case atStart=>exact⟨0,kqy _,rfl,by simp[dl,Nat.mod_one],rfl⟩
 obtain⟨j,hj,rfl,rfl,rfl⟩:=hrel;obtain⟨y,a⟩:=xq (dl x f j);rw[a];have hy0:(0:Int)<=(y:Int):=by omega
 by_cases hlt:j<n
 .have ik1:(j:Int)<(n:Int):=by omega
  have l:=GS x (f+j) wr u.out (by omega);have h:=Ap j wr (by omega);have c:=lS x f j;have m:=rj (w:=x) (f:=f) (n:=j+1) (by omega);obtain⟨b,g⟩:=xq (x/2 ^ (f+j)%2);obtain⟨p,i⟩:=xq (2 ^ j);rw[g,kjk] at l;rw[i] at h;rw[a,g,i] at c;rw[c] at m;obtain⟨q,d⟩:=xq (b*p);rw[d] at c m;have o:(b:Int)*(p:Int)=(q:Int):=by rw[<-d,kkq]
  have hm0:(0:Int)<=(b:Int)*(p:Int):=by omega
  have hm1:(b:Int)*(p:Int)<18446744073709551616:=by omega
  have hs0:(0:Int)<=(y:Int)+(b:Int)*(p:Int):=by omega
  have hs1:(y:Int)+(b:Int)*(p:Int)<18446744073709551616:=by omega
  have r:=hid o;have A:=hid l;have t:=hid h;have s:=hid c;clear g i d a l h c m o;go_wp2_with fail;refine A.out.mono ?_;rintro e w1 ⟨rfl,rfl⟩;go_wp2_with fail;refine t.out.mono ?_;rintro e w2 ⟨rfl,rfl⟩;go_wp2;go_roundw
  case rel=>exact⟨j+1,by omega,by go_num,by rw[s.out,r.out];go_num,trivial⟩
  case measure=>simp[intOf];omega
 obtain rfl:j=n:=by omega
 have z:=hid a;clear a;go_wp2;go_ret;rw[z.out];exact⟨by go_num,rfl⟩
theorem rz(x f n v:Nat)(w:World)(hx:x<18446744073709551616)(hv:v<18446744073709551616)(hi:f+n<=64):
 Calls prog 139 #[.int .u64 (x:Int),.int .i64 (f:Int),.int .i64 (n:Int),.int .u64 (v:Int)] w λe w'=>e=.returned (.int .u64 ((iG x f n v:Nat):Int))/\w'=w:=by
 have E:=hid hx;have M:=hid hv;clear hx hv;go_enter func139,ntmps139;go_wp2_with fail;go_loopw [0,9] (λu k wr=>∃j:Nat,j<=n/\k=.int .i64 j/\u=.int .u64 ((iG x f j v:Nat):Int)/\wr=w) (λ_ k _=>n-(intOf k).toNat)
 case atStart=>exact⟨0,kqy _,rfl,by rw[wk],rfl⟩
 obtain⟨j,hj,rfl,rfl,rfl⟩:=hrel;obtain⟨y,g⟩:=xq (iG x f j v);rw[g];have hy0:(0:Int)<=(y:Int):=by omega
 by_cases hlt:j<n
 .have ik1:(j:Int)<(n:Int):=by omega
  have d:=uo (v:=v) E.out (show f+j<=64 by omega);rw[g] at d;have A:=GS y (f+j) wr d (by omega);have s:=Ap (f+j) wr (by omega);have t:=GS v j wr M.out (by omega);obtain⟨h,a⟩:=vr x f j v;have o:=uo (v:=v) E.out (show f+(j+1)<=64 by omega);rw[g] at h a;rw[h] at o;obtain⟨b,l⟩:=xq (y/2 ^ (f+j)%2);obtain⟨p,m⟩:=xq (2 ^ (f+j));obtain⟨c,B⟩:=xq (v/2 ^ j%2);rw[l,kjk] at A;rw[m,kjk] at s;rw[B] at t;rw[l,m,B] at h o;rw[l,m] at a;obtain⟨q,i⟩:=xq (b*p);obtain⟨r,z⟩:=xq (c*p);rw[i,z] at h o;rw[i] at a;have H:(b:Int)*(p:Int)=(q:Int):=by rw[<-i,kkq]
  have J:(c:Int)*(p:Int)=(r:Int):=by rw[<-z,kkq]
  have hm0:(0:Int)<=(b:Int)*(p:Int):=by omega
  have hm1:(b:Int)*(p:Int)<18446744073709551616:=by omega
  have hn0:(0:Int)<=(c:Int)*(p:Int):=by omega
  have hn1:(c:Int)*(p:Int)<18446744073709551616:=by omega
  have ht0:(0:Int)<=(y:Int)-(b:Int)*(p:Int):=by omega
  have ht1:(y:Int)-(b:Int)*(p:Int)<18446744073709551616:=by omega
  have hs0:(0:Int)<=(y:Int)-(b:Int)*(p:Int)+(c:Int)*(p:Int):=by omega
  have hs1:(y:Int)-(b:Int)*(p:Int)+(c:Int)*(p:Int)<18446744073709551616:=by omega
  have C:(((y-q+r:Nat):Int))=(y:Int)-(b:Int)*(p:Int)+(c:Int)*(p:Int):=by omega
  have F:=hid C;have L:=hid A;have D:=hid s;have G:=hid h;have I:=hid t;clear l m B i z g A s h a o t H J C d;go_wp2_with fail;refine L.out.mono ?_;rintro e w1 ⟨rfl,rfl⟩;go_wp2_with fail;refine D.out.mono ?_;rintro e w2 ⟨rfl,rfl⟩;go_wp2_with fail;refine I.out.mono ?_;rintro e w3 ⟨rfl,rfl⟩;go_wp2_with fail;refine D.out.mono ?_;rintro e w4 ⟨rfl,rfl⟩;go_wp2;go_roundw
  case rel=>exact⟨j+1,by omega,by go_num,by rw[G.out,F.out],trivial⟩
  case measure=>simp[intOf];omega
 obtain rfl:j=n:=by omega
 have K:=hid g;clear g;go_wp2;go_ret;rw[K.out];exact⟨by go_num,rfl⟩
theorem vt(x:Nat)(w:World)(hx:x<18446744073709551616):
 Calls prog 249 #[.int .u64 (x:Int)] w λe w'=>e=.returned (.agg (bK x 8))/\Below w.heap.size w w':=by
 have hzv:=Bb;have C:=hid hx;clear hx;go_enter func249,ntmps249;go_wp2_with fail;go_loopw [0,4] (λv i wr=>∃k:Nat,k<=8/\i=.int .i64 k/\v=.int .u64 ((x/256 ^ k:Nat):Int)/\Bx wr w.heap.size 308 ig/\Bx wr (w.heap.size+1) 308 (bK x k)/\Below w.heap.size w wr) (λ_ i _=>8-(intOf i).toNat)
 case atStart =>
  refine⟨0,kqy _,rfl,by simp,(Bx.new w _ _).alloc _,?_,((kqk _ _).alloc (kqa _) _).alloc (by simp) _⟩;have:=Bx.new (w.alloc (.cells ig 308)) 308 ig;rw[kqm] at this;rw[<-uH];exact this
 obtain⟨k,hk,rfl,rfl,l,f,t⟩:=hrel;have hz:=t.size;by_cases g:k<8
 .have B:=f.cell k;rw[eH _ _ _ g] at B;have hf:=f.frozen k;have u:=hid (nb x k g);have a:=hid f;have r:=hid l;have ik0:(0:Int)<=(k:Int):=by omega
  have ik1:(k:Int)<8:=by omega
  obtain⟨y,b⟩:=xq (x/256 ^ k);have q:Hid (y<18446744073709551616):=hid (by rw[<-b];exact kvk (Nat.div_le_self _ _) C.out);have s:Hid (iU x k=y%256):=hid (by rw[<-b];rfl);have A:Hid (x/256 ^ (k+1)=y/256):=hid (by rw[<-b,kj0,kjn]);have hy0:(0:Int)<=(y:Int):=by omega
  have hy1:(y:Int)/256<18446744073709551616:=by have:=q.out;omega
  have hy2:(0:Int)<=(y:Int)/256:=by omega
  rw[b];clear l f b;go_wp2_with fail;refine⟨⟨k+1,by omega,by go_num,by rw[A.out];go_num,r.out.far (p:=⟨w.heap.size+1,k,none⟩) (by dsimp only;omega) _,?_,t.setCell (p:=⟨w.heap.size+1,k,none⟩) (by dsimp only;omega) _⟩,by simp[intOf];omega⟩;rw[<-u.out,s.out];exact a.out.set_ k _
 obtain rfl:k=8:=by omega
 have n:(prog.info? 308).map (·.size)=some (bK x 8).size:=by rw[bh];exact Fa
 have m:=kk x 8;have c:=jB l;rw[show ig.size=(bK x 8).size by rw[bh];simp[ig]] at c;have j:=hid (fq l (cs:=bK x 8) (by rw[bh];simp[ig]));have a:=hid f;have h:=hid (aU (kqa _) (bK x 8).toList (o:=0) t);clear l f;obtain⟨cs,d⟩:=xq (bK x 8);have z:=hid d;rw[d] at n m c j a h;obtain⟨y,b⟩:=xq (x/256 ^ 8);rw[b];clear d b;go_wp2_with (first
  | (refine kxc rfl _ _ rfl (w.heap.size+1) (by rfl) 308 cs (0,0) _ a.out underlying308 (by rfl) n ?_)
  | (refine kjh rfl _ _ _ rfl w.heap.size 0 cs (by rfl) (by rfl) c n m ?_))
 exact kqr (v:=.agg cs) (results_cell_row rfl _ _ w.heap.size _ cs (0,0) _ (by rfl) j.out underlying308 (by rfl) n) rfl ⟨by rw[z.out],h.out⟩
theorem B6(s b:Nat)(hb:b<256):Ep s b=(s-s%256+((s%256) ^^^ b))*1099511628211%18446744073709551616:=by rw[GP s b hb];rfl
theorem vA(s b:Nat)(hb:b<256):(s%256) ^^^ b<256:=Nat.xor_lt_two_pow (n:=8) (kz4 _ (by omega)) hb
theorem step_c(s b:Nat)(w:World)(hs:s<18446744073709551616)(hb:b<256):
 Calls prog 250 #[.int .u64 (s:Int),.int .u8 (b:Int)] w λe w'=>e=.returned (.int .u64 ((Ep s b:Nat):Int))/\w'=w:=by
 have d:=hid (B6 s b hb);have f:=vA s b hb;have a:=u8_xor_nat (s%256) b (kz4 _ (by omega)) hb;rw[Int.natCast_emod] at a;obtain⟨q,c⟩:=xq ((s%256) ^^^ b);rw[c] at d f a;have hx':bits .xor .u8 ((s:Int)%256) (b:Int)=(q:Int):=a;have hs0:(0:Int)<=(s:Int):=by omega
 have ht0:(0:Int)<=(s:Int)-(s:Int)%256:=by omega
 have ht1:(s:Int)-(s:Int)%256<18446744073709551616:=by omega
 have hu0:(0:Int)<=(s:Int)-(s:Int)%256+(q:Int):=by omega
 have hu1:(s:Int)-(s:Int)%256+(q:Int)<18446744073709551616:=by omega
 have g:Hid ((s:Int)-(s:Int)%256+(q:Int)=((s-s%256+q:Nat):Int)):=hid (by omega);clear hs hb c a;go_enter func250,ntmps250;go_wp2;go_ret;refine⟨?_,rfl⟩;rw[d.out,<-l5,kkq,<-g.out];rfl
theorem uJ(s:Nat)(A:Option Addr)(l:List Nat)(c n:Nat)(w:World)(hn:l.length=n)(hm:n<=2048)(hs:s<18446744073709551616)(E:RdW w w.heap.size A l)(ho:∀x∈l,x<18446744073709551616):
 Calls prog 199 #[.int .u64 (s:Int),.slice A n c] w λe w'=>e=.returned (.int .u64 (aR s l:Nat))/\Below w.heap.size w w':=by
 subst hn;have HR:=hid E;have HO:=hid ho;have HS:=hid hs;have hzv:=Bb;clear E ho hs;obtain⟨i0,B,G,a,t⟩:=kzw mh;have HI:=hid B;have HZ0:=hid G;have HZ1:=hid a;have HZ2:=hid t;clear B G a t;go_enter func199,ntmps199;go_wp2_with fail;go_loopw [0,5] (λQ i wr=>∃k:Nat,k<=l.length/\i=.int .i64 k/\Q=.int .u64 (aR s (l.take k):Nat)/\Below w.heap.size w wr) (λ_ i _=>l.length-(intOf i).toNat)
 case atStart=>exact⟨0,kqy _,rfl,rfl,kqk _ _⟩
 obtain⟨k,hk,rfl,rfl,J⟩:=hrel;have hz:=J.size;by_cases f:k<l.length
 .obtain ⟨b,O,rfl,hb,N⟩:=RdW.at_ HR.out f;replace N:=(J.cell (p:=⟨b,O+k,none⟩) hb).trans N;have Z:=hid (HO.out l[k] (kqp f));have K:=hid (lY f s);obtain⟨x,T⟩:=xq (l[k]);rw[T] at N Z K;have W:=hid (ii HS.out (l.take k));obtain⟨q,U⟩:=xq (aR s (l.take k));rw[U] at K W |-;clear T U;have ik1:(0:Int)<=(k:Int):=by omega
  have ik2:(k:Int)<(l.length:Int):=by omega
  go_wp2_with fail;refine (vt x _ Z.out).mono ?_;rintro e L ⟨rfl,M⟩;have H:=J.trans (M.mono hz);have a:=H.size;have P:=Bx.new L 308 ig;have B:(prog.info? 308).map (·.size)=some (bK x 8).size:=by rw[bh];exact Fa
  have I:=kk x 8;have g:=jB P;rw[show ig.size=(bK x 8).size by rw[bh];simp[ig]] at g;have C:=hid (fq P (cs:=bK x 8) (by rw[bh];simp[ig]));have z:=hid (aU a (bK x 8).toList (o:=0) (H.alloc a (.cells ig 308)));clear P;obtain⟨cs,h⟩:=xq (bK x 8);have S:=hid h;rw[h] at B I g C z |-;clear h;go_wp2_with (refine kjh rfl _ _ _ rfl L.heap.size 0 cs (by rfl) (by rfl) g B I ?_);go_loopw [0,7] (λQ i wr=>∃j:Nat,j<=8/\i=.int .i64 j/\Q=.int .u64 (By q x j:Nat)/\Bx wr L.heap.size 308 cs/\Below w.heap.size w wr) (λ_ i _=>8-(intOf i).toNat)
  case atStart=>exact⟨0,kqy _,rfl,rfl,C.out,z.out⟩
  obtain⟨j,hj,rfl,rfl,m,v⟩:=hrel;by_cases F:j<8
  .have Y:=m.cell j;rw[<-S.out,eH x 8 j F,if_pos F] at Y;have hf:=m.frozen j;have hlb:=m.lt;have R:=hid m;have u:=qA x j;have D:=hid (rZ W.out x j);have d:Hid (By q x (j+1)=Ep (By q x j) (iU x j)):=hid rfl;obtain⟨p,X⟩:=xq (By q x j);obtain⟨y,V⟩:=xq (iU x j);rw[X] at D d |-;rw[V] at u Y d;have ij0:(0:Int)<=(j:Int):=by omega
   have ij1:(j:Int)<8:=by omega
   clear X V m;go_wp2_with fail;refine (step_c p y _ D.out u).mono ?_;rintro e w2 ⟨rfl,rfl⟩;obtain⟨r,E⟩:=xq (Ep p y);rw[E] at d |-;clear E;go_wp2_with fail;refine⟨⟨j+1,by omega,by go_num,by rw[d.out],R.out,v⟩,by simp[intOf];omega⟩
  obtain rfl:j=8:=by omega
  clear m;go_wp2;go_roundw
  case rel=>exact⟨k+1,by omega,by go_num,by rw[K.out];rfl,v⟩
  case measure=>simp[intOf];omega
 obtain rfl:k=l.length:=by omega
 rw[kzf];go_wp2;go_ret;exact⟨rfl,J⟩
theorem sum_c(A:Option Addr)(l:List Nat)(c n:Nat)(w:World)(hn:l.length=n)(hm:n<=2048)(hr:RdW w w.heap.size A l)(ho:∀x∈l,x<18446744073709551616):
 Calls prog 138 #[.slice A n c] w λe w'=>e=.returned (.int .u64 (aR 14695981039346656037 l:Nat))/\Below w.heap.size w w':=by have h:=hid hr;have g:=hid ho;have f:=hid hn;clear hr ho hn;go_enter func138,ntmps138;go_wp2_with fail;refine (uJ 14695981039346656037 A l c n w f.out hm (by omega) h.out g.out).mono ?_;rintro e w1 ⟨rfl,d⟩;obtain⟨q,b⟩:=xq (aR 14695981039346656037 l);have a:=hid b;rw[b];clear b;go_wp2;go_ret;exact⟨by rw[a.out];rfl,d⟩
theorem uq(A:Option Addr)(l:List Nat)(c n:Nat)(w:World)(hn:l.length=n)(hm:n<=2048)(a:RdW w w.heap.size A l)(ho:∀x∈l,x<18446744073709551616):
 Calls prog 140 #[.slice A n c,.int .i64 32] w λe w'=>e=.returned (.int .u64 ((aR 14695981039346656037 l%4294967296:Nat):Int))/\Below w.heap.size w w':=by have k:=hid a;have j:=hid ho;have i:=hid hn;clear a ho hn;go_enter func140,ntmps140;go_wp2_with fail;refine (sum_c A l c n w i.out hm k.out j.out).mono ?_;rintro e m ⟨rfl,g⟩;have b:=hid (ii (s:=14695981039346656037) (by omega) l);obtain⟨q,f⟩:=xq (aR 14695981039346656037 l);have d:=hid f;rw[f] at b |-;clear f;go_wp2_with fail;refine (F3 q 0 32 m b.out (by omega)).mono ?_;rintro e w2 ⟨rfl,rfl⟩;obtain⟨r,a⟩:=xq (dl q 0 32);have h:=hid a;rw[a];clear a;go_wp2;go_ret;exact⟨by rw[d.out,<-h.out];simp[dl],g⟩
theorem jp(hw:w<2 ^ f)(hv:v<2 ^ n):iG w f n v=w+v*2 ^ f:=by unfold iG dl;rw[Nat.div_eq_of_lt hw,Nat.zero_mod,kvi,Nat.sub_zero,Nat.mod_eq_of_lt hv]
theorem qx(K T S:Nat)(m:Bool)(w:World)(h1:K<256)(h2:T<128)(h3:S<65536):
 Calls prog 90 #[.int .i64 (K:Int),.bool m,.int .i64 (T:Int),.int .i64 (S:Int)] w λe w'=>e=.returned (.int .u64 ((K+qd m*256+T*512+S*65536+iX (K+qd m*256+T*512+S*65536)%4294967296*4294967296:Nat):Int))/\Below w.heap.size w w':=by
 obtain⟨M,B⟩:=xq (qd m);have hM1:M<2:=by rw[<-B];cases m<;>simp[qd]
 have G:=hid (λW=>rz 0 0 8 K W (by omega) (by omega) (by omega));have D:=jp (w:=0) (f:=0) (n:=8) (v:=K) (by omega) (by omega);have L:=jp (w:=K) (f:=8) (n:=1) (v:=1) (by omega) (by omega);have H:=jp (w:=K+M*256) (f:=9) (n:=7) (v:=T) (by omega) (by omega);have N:=jp (w:=K+M*256+T*512) (f:=16) (n:=16) (v:=S) (by omega) (by omega);have j:K+M*256+T*512+S*65536<4294967296:=by omega
 have p:=hid (kz4 (iX (K+M*256+T*512+S*65536)) (show 4294967296 > 0 by omega));have E:=hid (λW=>rz K 8 1 1 W (by omega) (by omega) (by omega));have l:=hid (λW=>rz (K+M*256) 9 7 T W (by omega) (by omega) (by omega));have d:=hid (λW=>rz (K+M*256+T*512) 16 16 S W (by omega) (by omega) (by omega));rw[show 0+K*2 ^ 0=K by omega] at D;rw[D] at G;rw[L] at E;rw[H] at l;rw[N] at d;have I:=jp (w:=K+M*256+T*512+S*65536) (f:=32) (n:=32) (v:=iX (K+M*256+T*512+S*65536)%4294967296) (by omega) p.out;have o:=hid (λW=>rz (K+M*256+T*512+S*65536) 32 32 (iX (K+M*256+T*512+S*65536)%4294967296) W (by omega) (by have:=p.out;omega) (by omega));rw[I] at o;rw[B];have x:K+1*2 ^ 8=K+256:=by omega
 have t:K+M*256+T*2 ^ 9=K+M*256+T*512:=by omega
 have A:K+M*256+T*512+S*2 ^ 16=K+M*256+T*512+S*65536:=by omega
 rw[x] at E;rw[t] at l;rw[A] at d;clear D L H N I x t A;obtain⟨r,u⟩:=xq (K+M*256);rw[u] at l d o j p |-;obtain⟨C,z⟩:=xq (r+T*512);rw[z] at l d o j p |-;obtain⟨c,s⟩:=xq (C+S*65536);rw[s] at d o j p |-;have i:Hid (m=true->K+256=r):=hid (λh=>by subst h;simp[qd] at B;omega);have g:Hid (m=false->K=r):=hid (λh=>by subst h;simp[qd] at B;omega);clear u z s B;cases m
 .obtain rfl:=g.out rfl;clear g i;go_enter func90,ntmps90;go_wp2_with fail;refine (G.out _).mono ?_;rintro e J ⟨rfl,rfl⟩;go_wp2_with fail;refine (l.out _).mono ?_;rintro e P ⟨rfl,rfl⟩;go_wp2_with fail;refine (d.out _).mono ?_;rintro e F ⟨rfl,rfl⟩;go_wp2_with fail;have b:=mY F [.int .u64 (c:Int)] 53;refine (uq _ [c] _ 1 _ rfl (by omega) (by rw[kqm];exact b) (by intro y q;simp at q;subst q;omega)).mono ?_;rintro e O ⟨rfl,a⟩;rw[kqm] at a;have k:=ax a;rw[show aR 14695981039346656037 [c]=iX c from rfl];clear a b;go_wp2_with fail;refine (o.out _).mono ?_;rintro e Q ⟨rfl,rfl⟩;go_wp2;go_ret;exact⟨rfl,k⟩
 obtain rfl:=i.out rfl;clear g i;go_enter func90,ntmps90;go_wp2_with fail;refine (G.out _).mono ?_;rintro e J ⟨rfl,rfl⟩;go_wp2_with fail;refine (E.out _).mono ?_;rintro e J ⟨rfl,rfl⟩;go_wp2_with fail;refine (l.out _).mono ?_;rintro e P ⟨rfl,rfl⟩;go_wp2_with fail;refine (d.out _).mono ?_;rintro e F ⟨rfl,rfl⟩;go_wp2_with fail;have b:=mY F [.int .u64 (c:Int)] 53;refine (uq _ [c] _ 1 _ rfl (by omega) (by rw[kqm];exact b) (by intro y q;simp at q;subst q;omega)).mono ?_;rintro e O ⟨rfl,a⟩;rw[kqm] at a;have k:=ax a;rw[show aR 14695981039346656037 [c]=iX c from rfl];clear a b;go_wp2_with fail;refine (o.out _).mono ?_;rintro e Q ⟨rfl,rfl⟩;go_wp2;go_ret;exact⟨rfl,k⟩
end Go.Proofs.YtpcajamacpbjcaaGreat
