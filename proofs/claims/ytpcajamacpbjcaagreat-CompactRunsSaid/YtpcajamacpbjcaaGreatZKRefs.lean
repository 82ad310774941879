import Derived.Test.YtpcajamacpbjcaaGreatZKHead
set_option maxHeartbeats 16000000
set_option maxRecDepth 100000
set_option linter.all false
namespace Go.Proofs.YtpcajamacpbjcaaGreat
open Go.RowKit
variable {G:List Nat}{a f g n v w:Nat}{w':World}
open Go.Proofs.Tryz
def bJ (w f n:Nat):Nat:=w/2 ^ f%2 ^ n
def iZ (w f n v:Nat):Nat:=w-bJ w f n*2 ^ f+v%2 ^ n*2 ^ f
theorem l9(w f n:Nat):bJ w f (n+1)=bJ w f n+w/2 ^ (f+n)%2*2 ^ n:=by unfold bJ;rw[kj3,Nat.mod_mul,kxj,<-kkb,kjv (2 ^ n)]
theorem yS(w f n:Nat):bJ w f n<2 ^ n:=kz3 _ (kvx (by omega))
theorem pJ(w f n:Nat):bJ w f n*2 ^ f<=w:=by have a:bJ w f n<=w/2 ^ f:=Nat.mod_le _ _;exact kzu (kx2 _ a) (Nat.div_mul_le_self _ _)
theorem yR(w f v:Nat):iZ w f 0 v=w:=by simp[iZ,bJ,Nat.mod_one]
theorem rn(w f n v:Nat):iZ w f n v/2 ^ (f+n)=w/2 ^ (f+n):=by
 have e:0<2 ^ (f+n):=kvx (by omega);have h1:w=w/2 ^ (f+n)*2 ^ (f+n)+(bJ w f n*2 ^ f+w%2 ^ f):=by
  have e1:=kvn w (2 ^ f);have a:=kvn (w/2 ^ f) (2 ^ n);rw[kxj,<-kkb] at a;unfold bJ;have b:2 ^ f*(w/2 ^ f)=2 ^ f*(2 ^ n*(w/2 ^ (f+n))+w/2 ^ f%2 ^ n):=by rw[a]
  rw[Nat.mul_add,<-kvy,<-kkb] at b;rw[kjv (w/2 ^ (f+n)),kjv (w/2 ^ f%2 ^ n)];omega
 have c:iZ w f n v=w/2 ^ (f+n)*2 ^ (f+n)+(v%2 ^ n*2 ^ f+w%2 ^ f):=by unfold iZ;omega
 have d:v%2 ^ n*2 ^ f+w%2 ^ f<2 ^ (f+n):=by have a:v%2 ^ n+1<=2 ^ n:=kz3 _ (kvx (by omega));have a2:w%2 ^ f<2 ^ f:=kz3 _ (kvx (by omega));have b:(v%2 ^ n+1)*2 ^ f<=2 ^ n*2 ^ f:=kx2 _ a;rw[kkb,kjv (2 ^ f)];rw[kjl] at b;omega
 rw[c,kjv,Nat.mul_add_div e,Nat.div_eq_of_lt d,kxb]
theorem wN(w f n v:Nat):iZ w f (n+1) v=iZ w f n v-iZ w f n v/2 ^ (f+n)%2*2 ^ (f+n)+v/2 ^ n%2*2 ^ (f+n)/\iZ w f n v/2 ^ (f+n)%2*2 ^ (f+n)<=iZ w f n v:=by
 have a:iZ w f n v/2 ^ (f+n)%2*2 ^ (f+n)<=iZ w f n v:=kzu (kx2 _ (Nat.mod_le _ _)) (Nat.div_mul_le_self _ _);refine⟨?_,a⟩;rw[rn] at a |-;have b:=l9 w f n;have c:v%2 ^ (n+1)=v%2 ^ n+v/2 ^ n%2*2 ^ n:=by rw[kj3,Nat.mod_mul,kjv (2 ^ n)]
 have d:=pJ w f (n+1);have e4:=pJ w f n;unfold iZ at a |-;rw[b,kjl,kvy (w/2 ^ (f+n)%2),<-kkb,kjj n f] at d |-;rw[c,kjl,kvy (v/2 ^ n%2),<-kkb,kjj n f];omega
theorem vS(a:w<18446744073709551616)(h:f+n<=64):iZ w f n v<18446744073709551616:=by
 have b:0<2 ^ (f+n):=kvx (by omega);have e:18446744073709551616=2 ^ (64-(f+n))*2 ^ (f+n):=by rw[<-kkb,show 64-(f+n)+(f+n)=64 by omega]
 rw[e,<-Nat.div_lt_iff_lt_mul b] at a |-;rw[rn];exact a
theorem sV(h:f+n<=64):bJ w f n<18446744073709551616:=
 kxm (yS w f n) (show 2 ^ n<=2 ^ 64 from kjs (by omega) (by omega))
theorem JB(x i:Nat)(w:World)(a:x<18446744073709551616)(hi:i<=64):
 Calls prog 200 #[.int .u64 (x:Int),.int .i64 (i:Int)] w λe b=>e=.returned (.int .u64 ((x/2 ^ i%2:Nat):Int))/\b=w:=by
 have d:=y5 a;clear a;go_enter func200,ntmps200;go_wp2_with fail;go_loopw [0,5] (λv k wr=>∃j:Nat,j<=i/\k=.int .i64 j/\v=.int .u64 ((x/2 ^ j:Nat):Int)/\wr=w) (λ_ k _=>i-(intOf k).toNat)
 case atStart=>exact⟨0,kqv _,rfl,by simp,rfl⟩
 obtain⟨j,hj,rfl,rfl,rfl⟩:=hrel;obtain⟨y,a⟩:=xq (x/2 ^ j);rw[a];have hy0:(0:Int)<=(y:Int):=(by omega);obtain⟨c,b⟩:=yq0 a (show y<18446744073709551616 by rw[<-a];exact kjp (kkf _ _) d.out);clear a;by_cases hlt:j<i
 .have ik1:(j:Int)<(i:Int):=(by omega);have hy1:(y:Int)/2<18446744073709551616:=by have:=b.out;omega
  have hy2:(0:Int)<=(y:Int)/2:=(by omega);have a:Hid (x/2 ^ (j+1)=y/2):=y5 (by rw[<-c.out,kj3,kxj]);go_wp2;go_roundw;exact⟨j+1,by omega,by go_num,by rw[a.out];go_num,trivial⟩;simp[intOf];omega
 obtain rfl:j=i:=(by omega);go_wp2;go_ret;rw[c.out];exact⟨by go_num,rfl⟩
theorem BT(i:Nat)(w:World)(hi:i<64):
 Calls prog 201 #[.int .i64 (i:Int)] w λe a=>e=.returned (.int .u64 ((2 ^ i:Nat):Int))/\a=w:=by
 go_enter func201,ntmps201;go_wp2_with fail;go_loopw [3,4] (λv k wr=>∃j:Nat,j<=i/\k=.int .i64 j/\v=.int .u64 ((2 ^ j:Nat):Int)/\wr=w) (λ_ k _=>i-(intOf k).toNat)
 case atStart=>exact⟨0,kqv _,rfl,rfl,rfl⟩
 obtain⟨j,hj,rfl,rfl,rfl⟩:=hrel;obtain⟨y,a⟩:=xq (2 ^ j);rw[a];have hy0:(0:Int)<=(y:Int):=(by omega);have b:=y5 a;by_cases hlt:j<i
 .have ik1:(j:Int)<(i:Int):=(by omega);have hy1:(y:Int)*2<18446744073709551616:=by have c:2 ^ (j+1)<=2 ^ 63:=kjs (by omega) (by omega);rw[kj3,a] at c;omega
  have c:Hid (2 ^ (j+1)=y*2):=y5 (by rw[<-b.out,kj3]);clear a;go_wp2;go_roundw;exact⟨j+1,by omega,by go_num,by rw[c.out];go_num,trivial⟩;simp[intOf];omega
 obtain rfl:j=i:=(by omega);clear a;go_wp2;go_ret;rw[b.out];exact⟨by go_num,rfl⟩
theorem je(x f n:Nat)(w:World)(a:x<18446744073709551616)(hi:f+n<=64):
 Calls prog 202 #[.int .u64 (x:Int),.int .i64 (f:Int),.int .i64 (n:Int)] w λe b=>e=.returned (.int .u64 ((bJ x f n:Nat):Int))/\b=w:=by
 have u:=y5 a;clear a;go_enter func202,ntmps202;go_wp2_with fail;go_loopw [7,8] (λv k wr=>∃j:Nat,j<=n/\k=.int .i64 j/\v=.int .u64 ((bJ x f j:Nat):Int)/\wr=w) (λ_ k _=>n-(intOf k).toNat)
 case atStart=>exact⟨0,kqv _,rfl,by simp[bJ,Nat.mod_one],rfl⟩
 obtain⟨j,hj,rfl,rfl,rfl⟩:=hrel;obtain⟨y,c⟩:=xq (bJ x f j);rw[c];have hy0:(0:Int)<=(y:Int):=(by omega);by_cases hlt:j<n
 .have ik1:(j:Int)<(n:Int):=(by omega);have d:=JB x (f+j) wr u.out (by omega);have g:=BT j wr (by omega);have a:=l9 x f j;have h:=sV (w:=x) (f:=f) (n:=j+1) (by omega);obtain⟨b,i⟩:=xq (x/2 ^ (f+j)%2);obtain⟨p,k⟩:=xq (2 ^ j);rw[i,kjo] at d;rw[k] at g;rw[c,i,k] at a;rw[a] at h;obtain⟨q,l⟩:=xq (b*p);rw[l] at a h;have m:(b:Int)*(p:Int)=(q:Int):=by rw[<-l,kkm]
  have hm0:(0:Int)<=(b:Int)*(p:Int):=(by omega);have hm1:(b:Int)*(p:Int)<18446744073709551616:=(by omega);have hs0:(0:Int)<=(y:Int)+(b:Int)*(p:Int):=(by omega);have hs1:(y:Int)+(b:Int)*(p:Int)<18446744073709551616:=(by omega);obtain⟨t,o,r,s⟩:=yq2 m d g a;clear i k l c d g a h m;go_wp2_with fail;refine o.out.mono ?_;rintro e w1 ⟨rfl,rfl⟩;go_wp2_with fail;refine r.out.mono ?_;rintro e w2 ⟨rfl,rfl⟩;go_wp2;go_roundw;exact⟨j+1,by omega,by go_num,by rw[s.out,t.out];go_num,trivial⟩;simp[intOf];omega
 obtain rfl:j=n:=(by omega);have a:=y5 c;clear c;go_wp2;go_ret;rw[a.out];exact⟨by go_num,rfl⟩
theorem rK(x f n v:Nat)(w:World)(b:x<18446744073709551616)(a:v<18446744073709551616)(hi:f+n<=64):
 Calls prog 139 #[.int .u64 (x:Int),.int .i64 (f:Int),.int .i64 (n:Int),.int .u64 (v:Int)] w λe c=>e=.returned (.int .u64 ((iZ x f n v:Nat):Int))/\c=w:=by
 obtain⟨B,H⟩:=yq0 b a;clear b a;go_enter func139,ntmps139;go_wp2_with fail;go_loopw [0,9] (λu k wr=>∃j:Nat,j<=n/\k=.int .i64 j/\u=.int .u64 ((iZ x f j v:Nat):Int)/\wr=w) (λ_ k _=>n-(intOf k).toNat)
 case atStart=>exact⟨0,kqv _,rfl,by rw[yR],rfl⟩
 obtain⟨j,hj,rfl,rfl,rfl⟩:=hrel;obtain⟨y,h⟩:=xq (iZ x f j v);rw[h];have hy0:(0:Int)<=(y:Int):=(by omega);by_cases hlt:j<n
 .have ik1:(j:Int)<(n:Int):=(by omega);have d:=vS (v:=v) B.out (show f+j<=64 by omega);rw[h] at d;have o:=JB y (f+j) wr d (by omega);have s:=BT (f+j) wr (by omega);have t:=JB v j wr H.out (by omega);obtain⟨g,a⟩:=wN x f j v;have i:=vS (v:=v) B.out (show f+(j+1)<=64 by omega);rw[h] at g a;rw[g] at i;obtain⟨b,k⟩:=xq (y/2 ^ (f+j)%2);obtain⟨p,l⟩:=xq (2 ^ (f+j));obtain⟨c,u⟩:=xq (v/2 ^ j%2);rw[k,kjo] at o;rw[l,kjo] at s;rw[u] at t;rw[k,l,u] at g i;rw[k,l] at a;obtain⟨q,m⟩:=xq (b*p);obtain⟨r,z⟩:=xq (c*p);rw[m,z] at g i;rw[m] at a;have I:(b:Int)*(p:Int)=(q:Int):=by rw[<-m,kkm]
  have J:(c:Int)*(p:Int)=(r:Int):=by rw[<-z,kkm]
  have hm0:(0:Int)<=(b:Int)*(p:Int):=(by omega);have hm1:(b:Int)*(p:Int)<18446744073709551616:=(by omega);have hn0:(0:Int)<=(c:Int)*(p:Int):=(by omega);have hn1:(c:Int)*(p:Int)<18446744073709551616:=(by omega);have ht0:(0:Int)<=(y:Int)-(b:Int)*(p:Int):=(by omega);have ht1:(y:Int)-(b:Int)*(p:Int)<18446744073709551616:=(by omega);have hs0:(0:Int)<=(y:Int)-(b:Int)*(p:Int)+(c:Int)*(p:Int):=(by omega);have hs1:(y:Int)-(b:Int)*(p:Int)+(c:Int)*(p:Int)<18446744073709551616:=(by omega);have C:(((y-q+r:Nat):Int))=(y:Int)-(b:Int)*(p:Int)+(c:Int)*(p:Int):=(by omega);obtain⟨G,D,A,E,F⟩:=yq3 C o s g t;clear k l u m z h o s g a i t I J C d;go_wp2_with fail;refine D.out.mono ?_;rintro e w1 ⟨rfl,rfl⟩;go_wp2_with fail;refine A.out.mono ?_;rintro e w2 ⟨rfl,rfl⟩;go_wp2_with fail;refine F.out.mono ?_;rintro e w3 ⟨rfl,rfl⟩;go_wp2_with fail;refine A.out.mono ?_;rintro e w4 ⟨rfl,rfl⟩;go_wp2;go_roundw;exact⟨j+1,by omega,by go_num,by rw[E.out,G.out],trivial⟩;simp[intOf];omega
 obtain rfl:j=n:=(by omega);have a:=y5 h;clear h;go_wp2;go_ret;rw[a.out];exact⟨by go_num,rfl⟩
theorem wI(x:Nat)(w:World)(a:x<18446744073709551616):
 Calls prog 249 #[.int .u64 (x:Int)] w λe b=>e=.returned (.agg (co x 8))/\Below w.heap.size w b:=by
 have hzv:=CZ;have n:=y5 a;clear a;go_enter func249,ntmps249;go_wp2_with fail;go_loopw [0,4] (λv i wr=>∃k:Nat,k<=8/\i=.int .i64 k/\v=.int .u64 ((x/256 ^ k:Nat):Int)/\Bx wr w.heap.size 308 iJ/\Bx wr (w.heap.size+1) 308 (co x k)/\Below w.heap.size w wr) (λ_ i _=>8-(intOf i).toNat)
 case atStart =>
  refine⟨0,kqv _,rfl,by simp,(Bx.new w _ _).alloc _,?_,((kqe _ _).alloc (kqa _) _).alloc (by simp) _⟩;have:=Bx.new (w.alloc (.cells iJ 308)) 308 iJ;rw[kqm] at this;rw[<-vt];exact this
 obtain⟨k,hk,rfl,rfl,h,d,m⟩:=hrel;have hz:=m.size;by_cases j:k<8
 .have l:=d.cell k;rw[fj _ _ _ j] at l;have hf:=d.frozen k;obtain⟨f,a,c⟩:=yq1 (nK x k j) d h;have ik0:(0:Int)<=(k:Int):=(by omega);have ik1:(k:Int)<8:=(by omega);obtain⟨y,b⟩:=xq (x/256 ^ k);have g:Hid (y<18446744073709551616):=y5 (by rw[<-b];exact kjp (kkf _ _) n.out);have e:Hid (jl x k=y%256):=y5 (by rw[<-b];rfl);have i:Hid (x/256 ^ (k+1)=y/256):=y5 (by rw[<-b,kj3,kxj]);have hy0:(0:Int)<=(y:Int):=(by omega);have hy1:(y:Int)/256<18446744073709551616:=by have:=g.out;omega
  have hy2:(0:Int)<=(y:Int)/256:=(by omega);rw[b];clear h d b;go_wp2_with fail;refine⟨⟨k+1,by omega,by go_num,by rw[i.out];go_num,c.out.far (p:=⟨w.heap.size+1,k,none⟩) (by dsimp only;omega) _,?_,m.setCell (p:=⟨w.heap.size+1,k,none⟩) (by dsimp only;omega) _⟩,by simp[intOf];omega⟩;rw[<-f.out,e.out];exact a.out.set_ k _
 obtain rfl:k=8:=(by omega);have l:(prog.info? 308).map (·.size)=some (co x 8).size:=by rw[bM];exact Ic
 have i:=kG x 8;have e:=ki h;rw[show iJ.size=(co x 8).size by rw[bM];simp[iJ]] at e;obtain⟨f,a,g⟩:=yq1 (fX h (cs:=co x 8) (by rw[bM];simp[iJ])) d (bt (kqa _) (co x 8).toList (o:=0) m);clear h d;obtain⟨c,d⟩:=xq (co x 8);have h:=y5 d;rw[d] at l i e f a g;obtain⟨y,b⟩:=xq (x/256 ^ 8);rw[b];clear d b;go_wp2_with (first
  | (refine kz7 rfl _ _ rfl (w.heap.size+1) (by rfl) 308 c (0,0) _ a.out underlying308 (by rfl) l ?_)
  | (refine kjr rfl _ _ _ rfl w.heap.size 0 c (by rfl) (by rfl) e l i ?_))
 exact kqq (v:=.agg c) (results_cell_row rfl _ _ w.heap.size _ c (0,0) _ (by rfl) f.out underlying308 (by rfl) l) rfl ⟨by rw[h.out],g.out⟩
theorem EX(s b:Nat)(a:b<256):Gv s b=(s-s%256+((s%256) ^^^ b))*1099511628211%18446744073709551616:=by rw[Jr s b a];rfl
theorem xB(s b:Nat)(a:b<256):(s%256) ^^^ b<256:=Nat.xor_lt_two_pow (n:=8) (kz3 _ (by omega)) a
theorem step_c(s b:Nat)(w:World)(h:s<18446744073709551616)(a:b<256):
 Calls prog 250 #[.int .u64 (s:Int),.int .u8 (b:Int)] w λe c=>e=.returned (.int .u64 ((Gv s b:Nat):Int))/\c=w:=by
 have d:=y5 (EX s b a);have g:=xB s b a;have c:=u8_xor_nat (s%256) b (kz3 _ (by omega)) a;rw[Int.natCast_emod] at c;obtain⟨q,e⟩:=xq ((s%256) ^^^ b);rw[e] at d g c;have hx':bits .xor .u8 ((s:Int)%256) (b:Int)=(q:Int):=c;have hs0:(0:Int)<=(s:Int):=(by omega);have ht0:(0:Int)<=(s:Int)-(s:Int)%256:=(by omega);have ht1:(s:Int)-(s:Int)%256<18446744073709551616:=(by omega);have hu0:(0:Int)<=(s:Int)-(s:Int)%256+(q:Int):=(by omega);have hu1:(s:Int)-(s:Int)%256+(q:Int)<18446744073709551616:=(by omega);have f:Hid ((s:Int)-(s:Int)%256+(q:Int)=((s-s%256+q:Nat):Int)):=y5 (by omega);clear h a e c;go_enter func250,ntmps250;go_wp2;go_ret;refine⟨?_,rfl⟩;rw[d.out,<-me,kkm,<-f.out];rfl
theorem vF(s:Nat)(A:Option Addr)(l:List Nat)(c n:Nat)(w:World)(d:l.length=n)(hm:n<=2048)(b:s<18446744073709551616)(F:RdW w w.heap.size A l)(a:∀x∈l,x<2^64):
 Calls prog 199 #[.int .u64 (s:Int),.slice A n c] w λe f=>e=.returned (.int .u64 (aR s l:Nat))/\Below w.heap.size w f:=by
 subst d;obtain⟨T,S,U⟩:=yq1 F a b;have hzv:=CZ;clear F a b;obtain⟨i0,D,b,a,d⟩:=kzh j9;obtain⟨HI,HZ0,HZ1,HZ2⟩:=yq2 D b a d;clear D b a d;go_enter func199,ntmps199;go_wp2_with fail;go_loopw [0,5] (λh i wr=>∃k:Nat,k<=l.length/\i=.int .i64 k/\h=.int .u64 (aR s (l.take k):Nat)/\Below w.heap.size w wr) (λ_ i _=>l.length-(intOf i).toNat)
 case atStart=>exact⟨0,kqv _,rfl,rfl,kqe _ _⟩
 obtain⟨k,hk,rfl,rfl,G⟩:=hrel;have W:=G.size;by_cases f:k<l.length
 .obtain ⟨b,M,rfl,V,K⟩:=RdW.at_ T.out f;replace K:=(G.cell (p:=⟨b,M+k,none⟩) V).trans K;obtain⟨P,J⟩:=yq0 (S.out l[k] (kqp f)) (mg f s);obtain⟨x,g⟩:=xq (l[k]);rw[g] at K P J;have O:=y5 (gM U.out (l.take k));obtain⟨q,d⟩:=xq (aR s (l.take k));rw[d] at J O |-;clear g d;have ik1:(0:Int)<=(k:Int):=(by omega);have ik2:(k:Int)<(l.length:Int):=(by omega);go_wp2_with fail;refine (wI x _ P.out).mono ?_;rintro e N ⟨rfl,L⟩;have B:=G.trans (L.mono W);have a:=B.size;have d:=Bx.new N 308 iJ;have D:(prog.info? 308).map (·.size)=some (co x 8).size:=by rw[bM];exact Ic
  have v:=kG x 8;have g:=ki d;rw[show iJ.size=(co x 8).size by rw[bM];simp[iJ]] at g;obtain⟨m,t⟩:=yq0 (fX d (cs:=co x 8) (by rw[bM];simp[iJ])) (bt a (co x 8).toList (o:=0) (B.alloc a (.cells iJ 308)));clear d;obtain⟨u,d⟩:=xq (co x 8);have I:=y5 d;rw[d] at D v g m t |-;clear d;go_wp2_with (refine kjr rfl _ _ _ rfl N.heap.size 0 u (by rfl) (by rfl) g D v ?_);go_loopw [0,7] (λh i wr=>∃j:Nat,j<=8/\i=.int .i64 j/\h=.int .u64 (Cz q x j:Nat)/\Bx wr N.heap.size 308 u/\Below w.heap.size w wr) (λ_ i _=>8-(intOf i).toNat)
  case atStart=>exact⟨0,kqv _,rfl,rfl,m.out,t.out⟩
  obtain⟨j,hj,rfl,rfl,h,z⟩:=hrel;by_cases E:j<8
  .have Q:=h.cell j;rw[<-I.out,fj x 8 j E,if_pos E] at Q;have hf:=h.frozen j;have hlb:=h.lt;have H:=y5 h;have C:=so x j;have i:=y5 (tM O.out x j);have d:Hid (Cz q x (j+1)=Gv (Cz q x j) (jl x j)):=y5 rfl;obtain⟨p,r⟩:=xq (Cz q x j);obtain⟨y,R⟩:=xq (jl x j);rw[r] at i d |-;rw[R] at C Q d;have ij0:(0:Int)<=(j:Int):=(by omega);have ij1:(j:Int)<8:=(by omega);clear r R h;go_wp2_with fail;refine (step_c p y _ i.out C).mono ?_;rintro e w2 ⟨rfl,rfl⟩;obtain⟨r,F⟩:=xq (Gv p y);rw[F] at d |-;clear F;go_wp2_with fail;refine⟨⟨j+1,by omega,by go_num,by rw[d.out],H.out,z⟩,by simp[intOf];omega⟩
  obtain rfl:j=8:=(by omega);clear h;go_wp2;go_roundw;exact⟨k+1,by omega,by go_num,by rw[J.out];rfl,z⟩;simp[intOf];omega
 obtain rfl:k=l.length:=(by omega);rw[kzb];go_wp2;go_ret;exact⟨rfl,G⟩
theorem sum_c(A:Option Addr)(l:List Nat)(c n:Nat)(w:World)(a:l.length=n)(i:n<=2048)(d:RdW w w.heap.size A l)(b:∀x∈l,x<2^64):
 Calls prog 138 #[.slice A n c] w λe f=>e=.returned (.int .u64 (aR 14695981039346656037 l:Nat))/\Below w.heap.size w f:=by have h:=y5 d;obtain⟨g,f⟩:=yq0 b a;clear d b a;go_enter func138,ntmps138;go_wp2_with fail;refine (vF 14695981039346656037 A l c n w f.out i (by omega) h.out g.out).mono ?_;rintro e w1 ⟨rfl,b⟩;obtain⟨q,d⟩:=xq (aR 14695981039346656037 l);have a:=y5 d;rw[d];clear d;go_wp2;go_ret;exact⟨by rw[a.out];rfl,b⟩
theorem uL(A:Option Addr)(l:List Nat)(c n:Nat)(w:World)(b:l.length=n)(k:n<=2048)(a:RdW w w.heap.size A l)(d:∀x∈l,x<2^64):
 Calls prog 140 #[.slice A n c,.int .i64 32] w λe f=>e=.returned (.int .u64 ((aR 14695981039346656037 l%4294967296:Nat):Int))/\Below w.heap.size w f:=by have j:=y5 a;obtain⟨i,h⟩:=yq0 d b;clear a d b;go_enter func140,ntmps140;go_wp2_with fail;refine (sum_c A l c n w h.out k j.out i.out).mono ?_;rintro e m ⟨rfl,g⟩;have b:=y5 (gM (s:=14695981039346656037) (by omega) l);obtain⟨q,f⟩:=xq (aR 14695981039346656037 l);have d:=y5 f;rw[f] at b |-;clear f;go_wp2_with fail;refine (je q 0 32 m b.out (by omega)).mono ?_;rintro e w2 ⟨rfl,rfl⟩;obtain⟨r,a⟩:=xq (bJ q 0 32);have f:=y5 a;rw[a];clear a;go_wp2;go_ret;exact⟨by rw[d.out,<-f.out];simp[bJ],g⟩
theorem jM(b:w<2 ^ f)(a:v<2 ^ n):iZ w f n v=w+v*2 ^ f:=by unfold iZ bJ;rw[Nat.div_eq_of_lt b,Nat.zero_mod,kve,Nat.sub_zero,Nat.mod_eq_of_lt a]
theorem lh(K T S:Nat)(m:Bool)(w:World)(h1:K<256)(h2:T<128)(h3:S<65536):
 Calls prog 90 #[.int .i64 (K:Int),.bool m,.int .i64 (T:Int),.int .i64 (S:Int)] w λe a=>e=.returned (.int .u64 ((K+mE m*256+T*512+S*65536+jt (K+mE m*256+T*512+S*65536)%4294967296*4294967296:Nat):Int))/\Below w.heap.size w a:=by
 obtain⟨M,r⟩:=xq (mE m);have hM1:M<2:=by rw[<-r];cases m<;>simp[mE]
 have t:=y5 (λW=>rK 0 0 8 K W (by omega) (by omega) (by omega));have d:=jM (w:=0) (f:=0) (n:=8) (v:=K) (by omega) (by omega);have g:=jM (w:=K) (f:=8) (n:=1) (v:=1) (by omega) (by omega);have h:=jM (w:=K+M*256) (f:=9) (n:=7) (v:=T) (by omega) (by omega);have o:=jM (w:=K+M*256+T*512) (f:=16) (n:=16) (v:=S) (by omega) (by omega);have i:K+M*256+T*512+S*65536<4294967296:=(by omega);obtain⟨p,u,k,j⟩:=yq2 (kz3 (jt (K+M*256+T*512+S*65536)) (show 4294967296 > 0 by omega)) (λW=>rK K 8 1 1 W (by omega) (by omega) (by omega)) (λW=>rK (K+M*256) 9 7 T W (by omega) (by omega) (by omega)) (λW=>rK (K+M*256+T*512) 16 16 S W (by omega) (by omega) (by omega));rw[show 0+K*2 ^ 0=K by omega] at d;rw[d] at t;rw[g] at u;rw[h] at k;rw[o] at j;have q:=jM (w:=K+M*256+T*512+S*65536) (f:=32) (n:=32) (v:=jt (K+M*256+T*512+S*65536)%4294967296) (by omega) p.out;have l:=y5 (λW=>rK (K+M*256+T*512+S*65536) 32 32 (jt (K+M*256+T*512+S*65536)%4294967296) W (by omega) (by have:=p.out;omega) (by omega));rw[q] at l;rw[r];have a:K+1*2 ^ 8=K+256:=(by omega);have c:K+M*256+T*2 ^ 9=K+M*256+T*512:=(by omega);have b:K+M*256+T*512+S*2 ^ 16=K+M*256+T*512+S*65536:=(by omega);rw[a] at u;rw[c] at k;rw[b] at j;clear d g h o q a c b;obtain⟨o,a⟩:=xq (K+M*256);rw[a] at k j l i p |-;obtain⟨s,b⟩:=xq (o+T*512);rw[b] at k j l i p |-;obtain⟨c,q⟩:=xq (s+S*65536);rw[q] at j l i p |-;have g:Hid (m=true->K+256=o):=y5 (λh=>by subst h;simp[mE] at r;omega);have d:Hid (m=false->K=o):=y5 (λh=>by subst h;simp[mE] at r;omega);clear a b q r;cases m
 .obtain rfl:=d.out rfl;clear d g;go_enter func90,ntmps90;go_wp2_with fail;refine (t.out _).mono ?_;rintro e x ⟨rfl,rfl⟩;go_wp2_with fail;refine (k.out _).mono ?_;rintro e z ⟨rfl,rfl⟩;go_wp2_with fail;refine (j.out _).mono ?_;rintro e r ⟨rfl,rfl⟩;go_wp2_with fail;have b:=qr r [.int .u64 (c:Int)] 53;refine (uL _ [c] _ 1 _ rfl (by omega) (by rw[kqm];exact b) (by intro y q;simp at q;subst q;omega)).mono ?_;rintro e A ⟨rfl,a⟩;rw[kqm] at a;have h:=az a;rw[show aR 14695981039346656037 [c]=jt c from rfl];clear a b;go_wp2_with fail;refine (l.out _).mono ?_;rintro e B ⟨rfl,rfl⟩;go_wp2;go_ret;exact⟨rfl,h⟩
 obtain rfl:=g.out rfl;clear d g;go_enter func90,ntmps90;go_wp2_with fail;refine (t.out _).mono ?_;rintro e x ⟨rfl,rfl⟩;go_wp2_with fail;refine (u.out _).mono ?_;rintro e x ⟨rfl,rfl⟩;go_wp2_with fail;refine (k.out _).mono ?_;rintro e z ⟨rfl,rfl⟩;go_wp2_with fail;refine (j.out _).mono ?_;rintro e r ⟨rfl,rfl⟩;go_wp2_with fail;have b:=qr r [.int .u64 (c:Int)] 53;refine (uL _ [c] _ 1 _ rfl (by omega) (by rw[kqm];exact b) (by intro y q;simp at q;subst q;omega)).mono ?_;rintro e A ⟨rfl,a⟩;rw[kqm] at a;have h:=az a;rw[show aR 14695981039346656037 [c]=jt c from rfl];clear a b;go_wp2_with fail;refine (l.out _).mono ?_;rintro e B ⟨rfl,rfl⟩;go_wp2;go_ret;exact⟨rfl,h⟩
theorem sU(n:Nat)(w:World)(hn:n<=9223372036854775807):Calls prog 148 #[.int .i64 (n:Int)] w λe a=>e=.returned (.bool (am (n:Int)))/\w=a:=by
 have H:Hid (∀b:Bool,(b=true↔256<=n/\n<=2048/\n%8=0)->b=am (n:Int)):=y5 λb h=>by rw[kzk,ae,h];omega
 go_enter func148,ntmps148;go_wp2_with fail
 all_goals
  go_ret;exact⟨iL (H.out _ (by simp;omega)),rfl⟩
theorem fu(A:Option Addr)(n c:Nat)(w:World)(f:n<=9223372036854775807):Calls prog 92 #[.slice A n c] w λe a=>e=.returned (.int .i64 (lk n))/\w=a:=by
 cases a:am (n:Int)
 all_goals
  first
   | have b:=y5 (aM a)
   | have b:=y5 (bQ a)
  have d:=y5 a;clear a;go_enter func92,ntmps92;go_wp2_with fail;refine (sU n w f).mono ?_;rintro e w1 ⟨rfl,rfl⟩;rw[d.out];go_wp2;go_ret;exact⟨by rw[b.out];rfl,rfl⟩
theorem rG(b:Bk)(w:World):Calls prog 291 #[b.val] w λe a=>e=.returned (.int .i64 (ju b))/\Below w.heap.size w a:=by
 obtain⟨xa,xs,xk,xt,a,xn⟩:=b;unfold Bk.val;cases a
 all_goals
  go_enter func291,ntmps291;go_wp2_with fail
  all_goals
   go_ret;refine⟨?_,(kqe _ _).alloc (kqa _) _⟩;(try simp only[ne_eq,kqw,kqc,kxq,kk3,kqb,kze] at *)
   first
    | (exfalso;omega)
    | exact mX (At (by simp only[reduceCtorEq,and_false,false_and,or_false,true_and];omega))
    | exact mX (CG (by simp only[reduceCtorEq,and_false,false_and,or_false,true_and];omega))
theorem Jg(c:Int)(S K T:Nat)(m:Bool)(d:Nat)(w:World)(h:K<256)(i:T<128)(j:S<65536):
 Calls prog 292 #[.agg #[.int .i64 c,.int .i64 (S:Int),.int .i64 (K:Int),.int .i64 (T:Int),.bool m,.int .u64 (d:Int)]] w λe a=>e=.returned (.int .u64 ((cQ ⟨c,(S:Int),(K:Int),(T:Int),m,d⟩:Nat):Int))/\Below w.heap.size w a:=by have g:=y5 (λW=>lh K T S m W h i j);have f:Hid (cQ ⟨c,(S:Int),(K:Int),(T:Int),m,d⟩=K+mE m*256+T*512+S*65536+jt (K+mE m*256+T*512+S*65536)%4294967296*4294967296):=y5 rfl;obtain⟨V,a⟩:=xq (K+mE m*256+T*512+S*65536+jt (K+mE m*256+T*512+S*65536)%4294967296*4294967296);rw[a] at g f;rw[f.out];clear a;go_enter func292,ntmps292;go_wp2_with fail;refine (g.out _).mono ?_;rintro e w1 ⟨rfl,a⟩;rw[kqm] at a;have b:=az a;clear a;go_wp2;go_ret;exact⟨rfl,b⟩
theorem pj(x:Nat)(w:World)(k:x<18446744073709551616):Calls prog 274 #[.int .u64 (x:Int)] w λe a=>e=.returned (.tuple #[(An x).val,.bool (aD x)])/\Below w.heap.size w a:=by
 have c:=y5 (λW=>rG (aq x) W);have B:Hid (ju (aq x)=0->cQ (aq x)=x->An x=aq x/\aD x=true):=y5 λd f=>by
  have g:jk (aq x)=true:=by
   cases a:jk (aq x) with
   | true=>rfl
   | false=>rw[mA a] at d;cases d
  have:aD x=true:=by simp[aD,g,f]
  exact⟨(kL this).1,this⟩
 have o:Hid (ju (aq x)≠0\/cQ (aq x)≠x->An x=mt/\aD x=false):=y5 λh=>by
  have:aD x=false:=by
   cases a:jk (aq x) with
   | false=>simp[aD,a]
   | true =>
    rcases h with h|h
    .exact absurd (jh a) h
    simp[aD,a,h]
  exact⟨(mf this).1,this⟩
 have hx0:(0:Int)<=(x:Int):=(by omega);have f:(aq x).val=.agg #[.int .i64 0,.int .i64 ((x/65536%65536:Nat):Int),.int .i64 ((x%256:Nat):Int),.int .i64 ((x/512%128:Nat):Int),.bool (x/256%2==1),.int .u64 0]:=rfl;have I:x%256<256:=kz3 _ (by omega);have P:x/256%2<2:=kz3 _ (by omega);have J:x/512%128<128:=kz3 _ (by omega);have O:x/65536%65536<65536:=kz3 _ (by omega);obtain⟨q,r,s,t⟩:=yq2 (λW=>je x 0 8 W k (by omega)) (λW=>je x 8 1 W k (by omega)) (λW=>je x 9 7 W k (by omega)) (λW=>je x 16 16 W k (by omega));rw[show bJ x 0 8=x%256 by simp[bJ]] at q;rw[show bJ x 8 1=x/256%2 from rfl] at r;rw[show bJ x 9 7=x/512%128 from rfl] at s;rw[show bJ x 16 16=x/65536%65536 from rfl] at t;have d:=y5 (λW=>Jg 0 (x/65536%65536) (x%256) (x/512%128) (x/256%2==1) 0 W I J O);rw[show (⟨0,((x/65536%65536:Nat):Int),((x%256:Nat):Int),((x/512%128:Nat):Int),(x/256%2==1),0⟩:Bk)=aq x from rfl] at d;rw[f] at c;have a:=y5 f;have i:((((x/256%2:Nat):Int))==1)=(x/256%2==1):=by rw[kzk,kqw,kqw];omega
 obtain⟨K,l⟩:=xq (x%256);obtain⟨M,m⟩:=xq (x/256%2);obtain⟨T,z⟩:=xq (x/512%128);obtain⟨S,u⟩:=xq (x/65536%65536);rw[l] at I q c d a;rw[m] at P i r c d a;rw[z] at J s c d a;rw[u] at O t c d a;obtain⟨y,g⟩:=xq ((M==1));rw[g] at i c d a;obtain⟨V,n⟩:=xq (cQ (aq x));obtain⟨R,j⟩:=xq (ju (aq x));rw[n,j] at B o;rw[j] at c;rw[n] at d;clear k f l m z u g n j;go_enter func274,ntmps274;go_wp2_with fail;refine (q.out _).mono ?_;rintro e z ⟨rfl,rfl⟩;go_wp2_with fail;refine (r.out _).mono ?_;rintro e z ⟨rfl,rfl⟩;go_wp2_with fail;refine (s.out _).mono ?_;rintro e z ⟨rfl,rfl⟩;go_wp2_with fail;refine (t.out _).mono ?_;rintro e z ⟨rfl,rfl⟩;go_wp2_with fail;have k:=(Bx.new w 55 #[.int .i64 0,.int .i64 0,.int .i64 0,.int .i64 0,.bool false,.int .u64 0]).alloc (.cells #[.int .i64 0,.int .i64 (S:Int),.int .i64 (K:Int),.int .i64 (T:Int),.bool y,.int .u64 0] 55);have l:=Bx.new (w.alloc (.cells #[.int .i64 0,.int .i64 0,.int .i64 0,.int .i64 0,.bool false,.int .u64 0] 55)) 55 #[.int .i64 0,.int .i64 (S:Int),.int .i64 (K:Int),.int .i64 (T:Int),.bool y,.int .u64 0]
 have m:Below w.heap.size w ((w.alloc (.cells #[.int .i64 0,.int .i64 0,.int .i64 0,.int .i64 0,.bool false,.int .u64 0] 55)).alloc (.cells #[.int .i64 0,.int .i64 (S:Int),.int .i64 (K:Int),.int .i64 (T:Int),.bool y,.int .u64 0] 55)):=((kqe _ _).alloc (kqa _) _).alloc (by simp) _;have A:((w.alloc (.cells #[.int .i64 0,.int .i64 0,.int .i64 0,.int .i64 0,.bool false,.int .u64 0] 55)).alloc (.cells #[.int .i64 0,.int .i64 (S:Int),.int .i64 (K:Int),.int .i64 (T:Int),.bool y,.int .u64 0] 55)).heap.size=w.heap.size+2:=(by simp);rw[kqm] at l;obtain⟨L,f⟩:∃L,(w.alloc (.cells #[.int .i64 0,.int .i64 0,.int .i64 0,.int .i64 0,.bool false,.int .u64 0] 55)).alloc (.cells #[.int .i64 0,.int .i64 (S:Int),.int .i64 (K:Int),.int .i64 (T:Int),.bool y,.int .u64 0] 55)=L:=⟨_,rfl⟩;rw[f] at k l m A |-;clear f;refine (c.out L).mono ?_;rintro e z ⟨rfl,g⟩;have u:=m.trans (g.mono m.size);replace k:=k.up g (by omega);replace l:=l.up g (by omega);have hz1:w.heap.size+2<=z.heap.size:=by have:=g.size;omega
 obtain⟨W,X,Y,Z,c4,c5,f,cz⟩:=k.c6;obtain⟨d0,d1,d2,d3,d4,d5,N,dz⟩:=l.c6;obtain⟨U,Q1⟩:=yq0 k l;have C:=f 0;have D:=f 1;have E:=f 2;have F:=f 3;have G:=f 4;have H:=f 5;clear k l g m A N f i I P J O;by_cases j:R=0
 .have O:(R != 0)=false:=by rw[kqt];exact j
  have J:=y5 j;clear j C D E F G H W X Y Z c4 c5;go_wp2_with fail;refine (d.out z).mono ?_;rintro e w2 ⟨rfl,g⟩;have I:=u.trans (g.mono u.size);have k:=U.out.up g (by omega);have l:=Q1.out.up g (by omega);clear d0 d1 d2 d3 d4 d5;obtain⟨W,X,Y,Z,c4,c5,f,cz⟩:=k.c6;obtain⟨d0,d1,d2,d3,d4,d5,N,dz⟩:=l.c6;have Q:=y5 k;have C:=f 0;have D:=f 1;have E:=f 2;have F:=f 3;have G:=f 4;have H:=f 5;clear k l g N f;by_cases n:V=x
  .obtain ⟨g,i⟩:=B.out J.out n;obtain⟨m,A⟩:=yq0 g i;have P:((V:Int) != (x:Int))=false:=(by rw[kqt];omega);clear n g i;go_wp2_with fail;refine kqq (v:=.tuple #[.agg #[.int .i64 0,.int .i64 (S:Int),.int .i64 (K:Int),.int .i64 (T:Int),.bool y,.int .u64 0],.bool true]) (aX results274 _ ((((((Q.out.set_ 0 _).set_ 1 _).set_ 2 _).set_ 3 _).set_ 4 _).set_ 5 _) rfl rfl) rfl ⟨by rw[m.out,A.out,a.out],?_⟩;exact (kzl (p:=⟨w.heap.size,5,none⟩) (kzl (p:=⟨w.heap.size,4,none⟩) (kzl (p:=⟨w.heap.size,3,none⟩) (kzl (p:=⟨w.heap.size,2,none⟩) (kzl (p:=⟨w.heap.size,1,none⟩) (kzl (p:=⟨w.heap.size,0,none⟩) I (kqa _) _) (kqa _) _) (kqa _) _) (kqa _) _) (kqa _) _) (kqa _) _)
  obtain⟨g,i⟩:=o.out (.inr n);obtain⟨m,A⟩:=yq0 g i;have P:((V:Int) != (x:Int))=true:=(by rw[kqx];omega);clear n g i;go_wp2_with fail;refine kqq (v:=.tuple #[.agg #[.int .i64 0,.int .i64 0,.int .i64 0,.int .i64 0,.bool false,.int .u64 0],.bool false]) (aX results274 _ ((((((Q.out.set_ 0 _).set_ 1 _).set_ 2 _).set_ 3 _).set_ 4 _).set_ 5 _) rfl rfl) rfl ⟨by rw[m.out,A.out];rfl,?_⟩;exact (kzl (p:=⟨w.heap.size,5,none⟩) (kzl (p:=⟨w.heap.size,4,none⟩) (kzl (p:=⟨w.heap.size,3,none⟩) (kzl (p:=⟨w.heap.size,2,none⟩) (kzl (p:=⟨w.heap.size,1,none⟩) (kzl (p:=⟨w.heap.size,0,none⟩) I (kqa _) _) (kqa _) _) (kqa _) _) (kqa _) _) (kqa _) _) (kqa _) _)
 obtain⟨g,i⟩:=o.out (.inl j);obtain⟨m,A⟩:=yq0 g i;have O:(R != 0)=true:=by rw[kqx];exact j
 clear j g i;go_wp2_with fail;refine kqq (v:=.tuple #[.agg #[.int .i64 0,.int .i64 0,.int .i64 0,.int .i64 0,.bool false,.int .u64 0],.bool false]) (aX results274 _ ((((((U.out.set_ 0 _).set_ 1 _).set_ 2 _).set_ 3 _).set_ 4 _).set_ 5 _) rfl rfl) rfl ⟨by rw[m.out,A.out];rfl,?_⟩;exact (kzl (p:=⟨w.heap.size,5,none⟩) (kzl (p:=⟨w.heap.size,4,none⟩) (kzl (p:=⟨w.heap.size,3,none⟩) (kzl (p:=⟨w.heap.size,2,none⟩) (kzl (p:=⟨w.heap.size,1,none⟩) (kzl (p:=⟨w.heap.size,0,none⟩) u (kqa _) _) (kqa _) _) (kqa _) _) (kqa _) _) (kqa _) _) (kqa _) _)
theorem at_c(A:Option Addr)(G:List Nat)(c n a:Nat)(w:World)(b:G.length=n)(hm:n<=1000000)(ha:a+1<n)(I:RdW w w.heap.size A G)(ho:∀x∈G,x<2^64):
 Calls prog 263 #[.slice A n c,.int .i64 (a:Int)] w λe d=>e=.returned (.tuple #[(stB G a).val,.bool (stands G a)])/\Below w.heap.size w d:=by
 subst b;have HR:=y5 I;have r:=fH ho a;have g:=y5 (λW=>pj (wd G a) W r);obtain⟨b,V,rfl,hb,P⟩:=RdW.at_ I (show a<G.length by omega);obtain⟨b',off',e',-,Q⟩:=RdW.at_ I ha;cases e';rw[<-bY] at P Q;have ik0:(0:Int)<=(a:Int):=(by omega);have ik1:(a:Int)<(G.length:Int):=(by omega);have d1:decide ((a:Int)<0)=false:=(by rw[kqb];omega);have d2:decide ((G.length:Int)<=(a:Int))=false:=(by rw[kqb];omega);have ik2:(a:Int)+1<(G.length:Int):=(by omega);have ik3:(0:Int)<=(a:Int)+1:=(by omega);have htn:((a:Int)+1).toNat=a+1:=(by omega);have l:(aq (wd G a)).val=.agg #[.int .i64 0,.int .i64 ((szAt G a:Nat):Int),.int .i64 ((wd G a%256:Nat):Int),.int .i64 ((wd G a/512%128:Nat):Int),.bool (wd G a/256%2==1),.int .u64 0]:=rfl;have q:(bkAt G a).val=.agg #[.int .i64 (a:Int),.int .i64 ((szAt G a:Nat):Int),.int .i64 ((wd G a%256:Nat):Int),.int .i64 ((wd G a/512%128:Nat):Int),.bool (wd G a/256%2==1),.int .u64 ((wd G (a+1):Nat):Int)]:=rfl;have U:szAt G a<65536:=kz3 _ (by omega);have i:Hid (stands G a=(aD (wd G a)&&decide ((szAt G a:Int)<=(G.length:Int)-a))):=y5 rfl;have u:Hid (stands G a=false->stB G a=mt):=y5 λh=>(Ay h).1;have O:Hid (stands G a=true->stB G a=bkAt G a):=y5 λh=>(yZ h).1;cases m:aD (wd G a)
 .have k:stands G a=false:=by rw[i.out,m];rfl
  obtain⟨s,t⟩:=yq0 (u.out k) k;obtain⟨N,W⟩:=mf m;rw[N,m] at g;clear I l q m k N W r;unfold Bk.val mt at g;dsimp only at g;obtain⟨x,r⟩:=xq (wd G a);rw[r] at P g;clear r;go_enter func263,ntmps263;go_wp2_with fail;refine (g.out _).mono ?_;rintro e X ⟨rfl,d⟩;rw[kqm] at d;have j:=Bx.of_new d;have h:=az d;have z:=y5 j;obtain⟨Y,Z,c2,c3,c4,c5,f,cz⟩:=j.c6;have B:=f 0;have C:=f 1;have D:=f 2;have E:=f 3;have F:=f 4;have H:=f 5;clear j f d;go_wp2_with fail;refine kqq (v:=.tuple #[.agg #[.int .i64 0,.int .i64 0,.int .i64 0,.int .i64 0,.bool false,.int .u64 0],.bool false]) (aX results263 _ ((l8 z.out _ _ _ _ _ _).alloc _) rfl rfl) rfl ⟨by rw[s.out,t.out];rfl,(fS h (kqa _) _ _ _ _ _ _).alloc (by simp;have:=h.size;omega) _⟩
 obtain⟨N,W⟩:=kL m;rw[N,l,m] at g;have o:=y5 q;obtain⟨S,R⟩:=xq (szAt G a);obtain⟨K,hK⟩:=xq (wd G a%256);obtain⟨T,hT⟩:=xq (wd G a/512%128);obtain⟨M,hM⟩:=xq ((wd G a/256%2==1));rw[R,hK,hT,hM] at g o;rw[R] at U i;rw[m,kzx] at i;obtain⟨x,J⟩:=xq (wd G a);obtain⟨y,L⟩:=xq (wd G (a+1));rw[J] at P g;rw[L] at Q o;clear I l q m N W r R hK hT hM J L;by_cases l:(G.length:Int)<(a:Int)+S
 .have k:stands G a=false:=by rw[i.out,kqb];omega
  obtain⟨s,t⟩:=yq0 (u.out k) k;clear k;go_enter func263,ntmps263;go_wp2_with fail;refine (g.out _).mono ?_;rintro e X ⟨rfl,d⟩;rw[kqm] at d;have j:=Bx.of_new d;have h:=az d;have z:=y5 j;obtain⟨Y,Z,c2,c3,c4,c5,f,cz⟩:=j.c6;have B:=f 0;have C:=f 1;have D:=f 2;have E:=f 3;have F:=f 4;have H:=f 5;clear j f d;go_wp2_with fail;refine kqq (v:=.tuple #[.agg #[.int .i64 0,.int .i64 0,.int .i64 0,.int .i64 0,.bool false,.int .u64 0],.bool false]) (aX results263 _ ((l8 z.out _ _ _ _ _ _).alloc _) rfl rfl) rfl ⟨by rw[s.out,t.out];rfl,(fS h (kqa _) _ _ _ _ _ _).alloc (by simp;have:=h.size;omega) _⟩
 have k:stands G a=true:=by rw[i.out,kqh];omega
 obtain⟨s,t⟩:=yq0 (O.out k) k;have hle:(a:Int)+S<=(G.length:Int):=(by omega);clear k l;go_enter func263,ntmps263;go_wp2_with fail;refine (g.out _).mono ?_;rintro e X ⟨rfl,d⟩;rw[kqm] at d;have j:=Bx.of_new d;have h:=az d;have z:=y5 j;obtain⟨Y,Z,c2,c3,c4,c5,f,cz⟩:=j.c6;have B:=f 0;have C:=f 1;have D:=f 2;have E:=f 3;have F:=f 4;have H:=f 5;clear j f d;have hbw:b<X.heap.size:=by have:=h.size;omega
 have h1':=(h.cell (p:=⟨b,V+(a+1),none⟩) hb).trans Q;have hwr:IntKind.i64.wrap ((a:Int)+1)=(a:Int)+1:=kqo _ (by omega);go_wp2_with fail;refine kqq (v:=.tuple #[.agg #[.int .i64 (a:Int),.int .i64 (S:Int),.int .i64 (K:Int),.int .i64 (T:Int),.bool M,.int .u64 (y:Int)],.bool true]) (aX results263 _ ((l8 z.out _ _ _ _ _ _).alloc _) rfl rfl) rfl ⟨by rw[s.out,t.out,o.out],(fS h (kqa _) _ _ _ _ _ _).alloc (by simp;have:=h.size;omega) _⟩
def nB (G:List Nat) (a:Nat):List Bk:=(blocks G a).getD []
def tP (G:List Nat) (a:Nat) (e:Ending) (w':World):Prop:=∃A c,e=.returned (.tuple #[.slice A (nB G a).length c,.bool (blocks G a).isSome])/\RdB w' w'.heap.size A (nB G a)/\(nB G a).length<=c
def rtF (G:List Nat) (i j:Nat):Value:=.bool (decide (i<=j/\j%2=0)&&(blocks G j).isSome)
theorem EQ(h:blocks G a=none):tP G a (.returned (.tuple #[.slice none 0 0,.bool false])) w':=by
 have:nB G a=[]:=by simp[nB,h]
 exact⟨none,0,by rw[this,h];rfl,by rw[this];exact Rd.nil_,by rw[this];simp⟩
theorem Cd{H:Nat}{v:Value}{l:List Bk}(f:blocks G a=some l)(h:w'.ownsRow H 55 6 v l.length (l.flatMap Bk.cells)):tP G a (.returned (.tuple #[v,.bool true])) w':=by
 have e:nB G a=l:=by simp[nB,f]
 have i:∃A c,v=.slice A l.length c/\l.length<=c:=by
  rcases h.2 with⟨rfl,d⟩|⟨g,cap,cur,rfl,_,_,b,_⟩
  .exact ⟨none,0,by rw[d],by omega⟩
  exact⟨_,_,rfl,b⟩
 obtain⟨A,c,rfl,b⟩:=i;exact⟨A,c,by rw[e,f];rfl,by rw[e];exact Rd.of_own h,by rw[e];exact b⟩
theorem AP(G:List Nat)(m:Nat)(hm:m=G.length+1)(a:G.length%2=0){w:World}(h:w.rowIs g 4 m (λ_=>.bool false)):(w.setCell ⟨g,G.length,none⟩ (.bool true)).rowIs g 4 m (rtF G G.length):=
 (h.set G.length (.bool true)).congr λi hi=>by
  unfold rtF
  by_cases e:i=G.length
  .subst e
   rw[aH (kqa _)];simp[a]
  .rw[if_neg e]
   have:decide (G.length<=i/\i%2=0)=false:=(by rw[kqb];omega);rw[this];rfl
theorem uQ(G:List Nat)(m i:Nat)(a:i%2=0){w:World}(h:w.rowIs g 4 m (rtF G (i+2))):(w.setCell ⟨g,i,none⟩ (.bool (blocks G i).isSome)).rowIs g 4 m (rtF G i):=
 (h.set i _).congr λj _=>by
  unfold rtF
  by_cases e:j=i
  .subst e;simp[a]
  .rw[if_neg e]
   congr 2
   rw[decide_eq_decide]
   omega
theorem CF:(prog.info? 4).map (λi=>(i.zero,i.size,i.bytes))=some (some (.bool false),1,1):=by kernel_rfl
theorem mJ(A:Option Addr)(G:List Nat)(c n a:Nat)(w:World)(d:G.length=n)(hm:n<=100000)(j:n%2=0)(ha:a<=n)(g:a%2=0)(O:RdW w w.heap.size A G)(k:∀x∈G,x<2^64):
 Calls prog 213 #[.slice A n c,.int .i64 (a:Int)] w λe b=>tP G a e b/\Below w.heap.size w b:=by
 subst d;obtain⟨HR,HO⟩:=yq0 O k;obtain⟨m,d⟩:∃m,m=G.length+1:=⟨_,rfl⟩;have Kd:(Instr.makeSlice 114 (.int .i64 ((G.length:Int)+1)) (.int .i64 ((G.length:Int)+1))).run prog w=.ok (.slice (some ⟨w.heap.size,0,none⟩) m m) (w.alloc (.cells (madeCells #[.bool false] m) 4)):=by have:=run_make_row' (P:=prog) 114 4 (.bool false) 1 underlying114 CF rfl .i64 .i64 m (by omega) (by omega) w;rw[show ((m:Nat):Int)=(G.length:Int)+1 by omega] at this;exact this
 have h:=World.rowIs_made w (.bool false) m 4;have b:Below w.heap.size w (w.alloc (.cells (madeCells #[.bool false] m) 4)):=(kqe _ _).alloc (kqa _) _;have u:(w.alloc (.cells (madeCells #[.bool false] m) 4)).heap.size=w.heap.size+1:=(by simp);obtain⟨W0,f⟩:=xq (w.alloc (.cells (madeCells #[.bool false] m) 4));rw[f] at Kd h b u;have HMM:=y5 d;have c0:=h.cell (i:=G.length) (by omega);have f0:=h.frozen G.length;have R1:=y5 (AP G m d j h);have hlm:(G.length:Int)<(m:Int):=(by omega);obtain⟨HE,I,HZ0,W⟩:=yq2 j g u b;clear O k d f h j g u b;go_enter func213,ntmps213;go_wp2_with fail;go_loopw [7] (λp wr=>∃k:Nat,k<=G.length/\a<=k/\k%2=0/\p=.int .i64 ((k:Int)-2)/\wr.rowIs w.heap.size 4 m (rtF G k)/\Below w.heap.size w wr) (λp _=>(intOf p+2).toNat)
 case atStart=>exact⟨G.length,kqa _,ha,HE.out,rfl,R1.out,W.out.setCell (kqa _) _⟩
 obtain⟨k,q1,q2,H,rfl,g,y⟩:=hrel;have E:=y.size;by_cases C:a+2<=k
 .obtain ⟨i,rfl⟩:∃i,k=i+2:=⟨k-2,by omega⟩;rw[show (((i+2:Nat):Int)-2)=(i:Int) by omega];have r:i%2=0:=(by omega);have z:=y5 r;have g1:(a:Int)<=(i:Int):=(by omega);have g2:(0:Int)<=(i:Int):=(by omega);have s:=y5 (at_c A G c G.length i wr rfl (by omega) (by omega) (HR.out.up y E) HO.out);cases b:stands G i
  .have F:=y5 (show (blocks G i).isSome=false by rw[dt (by omega) b];rfl);rw[(Ay b).1,b] at s;unfold mt Bk.val at s;dsimp only at s;have h:=y5 g;clear b H r g;go_wp2_with fail;refine s.out.mono ?_;rintro e D ⟨rfl,d⟩;have f:=(nR h.out d h.out.lt).alloc (.cells #[.int .i64 0,.int .i64 0,.int .i64 0,.int .i64 0,.bool false,.int .u64 0] 55);have j:=((y.trans (d.mono E)).alloc (kzu E d.size) (.cells #[.int .i64 0,.int .i64 0,.int .i64 0,.int .i64 0,.bool false,.int .u64 0] 55));have l:i<m:=(by omega);have o:=f.cell l;have U:=f.frozen i;unfold rtF at o;obtain⟨q,N⟩:=xq ((decide (i+2<=i/\i%2=0)&&(blocks G i).isSome));rw[N] at o;have t:=y5 (uQ G m i z.out f);rw[F.out] at t;have v:=y5 j;clear f j N d;go_wp2;go_roundw;exact⟨i,by omega,by omega,z.out,by go_num,t.out,v.out.setCell (kqa _) _⟩;simp[intOf];omega
  have B:=aC b;have F:=y5 (show (blocks G i).isSome=(blocks G (i+szAt G i)).isSome by rw[aT (by omega) b,Option.isSome_map]);have L:(bkAt G i).val=.agg #[.int .i64 (i:Int),.int .i64 ((szAt G i:Nat):Int),.int .i64 ((wd G i%256:Nat):Int),.int .i64 ((wd G i/512%128:Nat):Int),.bool (wd G i/256%2==1),.int .u64 ((wd G (i+1):Nat):Int)]:=rfl;rw[(yZ b).1,b,L] at s;have J:=y5 (show (i+szAt G i)%2=0 by omega);obtain⟨S,Q⟩:=xq (szAt G i);obtain⟨K,R⟩:∃K,((wd G i%256:Nat):Int)=K:=⟨_,rfl⟩;obtain⟨T,Z⟩:∃T,((wd G i/512%128:Nat):Int)=T:=⟨_,rfl⟩;obtain⟨M,Y⟩:=xq ((wd G i/256%2==1));obtain⟨X,hX⟩:∃X,((wd G (i+1):Nat):Int)=X:=⟨_,rfl⟩;rw[Q] at F B J;rw[Q,R,Z,Y,hX] at s;obtain⟨z1,V,z3⟩:=B;have h:=y5 g;clear b r g L Q R Z Y hX V;go_wp2_with fail;refine s.out.mono ?_;rintro e D ⟨rfl,d⟩;have f:=(nR h.out d h.out.lt).alloc (.cells #[.int .i64 (i:Int),.int .i64 (S:Int),.int .i64 K,.int .i64 T,.bool M,.int .u64 X] 55);have j:=((y.trans (d.mono E)).alloc (kzu E d.size) (.cells #[.int .i64 (i:Int),.int .i64 (S:Int),.int .i64 K,.int .i64 T,.bool M,.int .u64 X] 55));have l:i<m:=(by omega);have L:i+S<m:=(by omega);have htn:((i:Int)+(S:Int)).toNat=i+S:=(by omega);have hub:(i:Int)+(S:Int)<(m:Int):=(by omega);have hlb:(0:Int)<=(i:Int)+(S:Int):=(by omega);have h:=Bx.new D 55 #[.int .i64 (i:Int),.int .i64 (S:Int),.int .i64 K,.int .i64 T,.bool M,.int .u64 X];have Y:(D.alloc (.cells #[.int .i64 (i:Int),.int .i64 (S:Int),.int .i64 K,.int .i64 T,.bool M,.int .u64 X] 55)).cell? ⟨D.heap.size,1,none⟩=some (.int .i64 (S:Int)):=h.cell 1;have o:=f.cell l;have U:=f.frozen i;have R:=f.cell L;unfold rtF at o R;rw[show decide (i+2<=i+S/\(i+S)%2=0)=true by rw[kqh];exact⟨by omega,J.out⟩,kzx,<-F.out] at R;obtain⟨q,N⟩:=xq ((decide (i+2<=i/\i%2=0)&&(blocks G i).isSome));rw[N] at o;have t:=y5 (uQ G m i z.out f);obtain⟨r,O⟩:=xq ((blocks G i).isSome);rw[O] at t R;have v:=y5 j;clear f j N d O h;obtain⟨Q,h⟩:∃Q,(D.alloc (.cells #[.int .i64 (i:Int),.int .i64 (S:Int),.int .i64 K,.int .i64 T,.bool M,.int .u64 X] 55))=Q:=⟨_,rfl⟩;rw[h] at Y o U R t v;go_wp2;go_roundw;exact⟨i,by omega,by omega,z.out,by go_num,t.out,v.out.setCell (kqa _) _⟩;simp[intOf];omega
 obtain rfl:k=a:=by have:=I.out;omega
 have hlt2:(k:Int)-2<(k:Int):=(by omega);have l:k<m:=(by omega);have o:=g.cell l;have ik:(k:Int)<(m:Int):=(by omega);have ik0:(0:Int)<=(k:Int):=(by omega);unfold rtF at o;rw[show decide (k<=k/\k%2=0)=true by rw[kqh];exact⟨kqa _,H⟩,kzx] at o;have d1:decide ((k:Int)<0)=false:=(by rw[kqb];omega);have d2:decide ((G.length:Int)<(k:Int))=false:=(by rw[kqb];omega);have d2n:decide (G.length<k)=false:=(by rw[kqb];omega);clear C H g;cases q:blocks G k with
 | none =>rw[q] at o;have F:=y5 q;rw[show (none:Option (List Bk)).isSome=false from rfl] at o;clear q;go_wp2;go_ret2;exact⟨EQ F.out,y⟩
 | some l =>
  rw[q] at o;have Ka:=y5 q;rw[show (some l).isSome=true from rfl] at o;clear q;have J:=y5 y;clear y;obtain⟨i2,M,u,r,f⟩:=kzh kQ;obtain⟨HJ,X,Y,Z⟩:=yq2 M u r f;clear M u r f;go_wp2_with fail;clear o;go_loopw [1,10] (λp v wr=>∃(i:Nat) (f:List Bk),p=.int .i64 i/\i<=G.length/\i%2=0/\blocks G k=(blocks G i).map (f ++ ·)/\f.length<=i/\wr.ownsRow w.heap.size 55 6 v f.length (f.flatMap Bk.cells)/\Below w.heap.size w wr) (λp _ _=>G.length-(intOf p).toNat)
  case atStart=>exact⟨k,[],rfl,ha,I.out,by simp,by simp,kq3 _ _ _ _,J.out⟩
  obtain⟨i,f,rfl,q2,H,g,q5,o,y⟩:=hrel;have E:=y.size;obtain⟨Eq,t⟩:=yq0 H g;clear g;by_cases C:i<G.length
  .have L:i+1<G.length:=by have:=HE.out;omega
   clear H;have b:stands G i=true:=by
    cases h:stands G i with
    | true=>rfl
    | false=>have:=t.out;rw[dt C h,Ka.out] at this;cases this
   have B:=aC b;have s:=y5 (at_c A G c G.length i wr rfl (by omega) L (HR.out.up y E) HO.out);rw[(yZ b).1,b] at s;have p:=y5 (show blocks G k=(blocks G (i+szAt G i)).map ((f++[bkAt G i]) ++ ·) by
    rw[t.out,aT C b];cases blocks G (i+szAt G i)<;>simp)
   have K:=y5 (ce Bk.cells f (bkAt G i));have g:=aU G i;obtain⟨x,v⟩:=xq (bkAt G i);obtain⟨z,h⟩:=xq (szAt G i);rw[v] at s p K g;rw[h] at p B g;have HX:=y5 v;obtain⟨N,xs,R,U,S,T⟩:=x;dsimp only at g;subst g;unfold Bk.val at s;dsimp only at s;obtain⟨z1,V,z3⟩:=B;have Kb:=y5 V;clear b v h V;go_wp2_with fail;refine s.out.mono ?_;rintro e D ⟨rfl,d⟩;have j:=y.trans (d.mono E);have g:=ag o d (kqa _);have r:=j.size;go_wp2_with (at_builtin;refine kq7 _ rfl _ _ 48 rfl w.heap.size 55 i2 _ 6 48 underlying48 HJ.out X.out Y.out Z.out rfl (by decide) _ _ _ rfl ((g.alloc _).alloc _) ⟨_,0,none⟩ 1 1 [.int .i64 N,.int .i64 (z:Int),.int .i64 R,.int .i64 U,.bool S,.int .u64 (T:Int)] rfl rfl (lM _ _ _ (kqm _ _)) (by simp[Value.oneCell']) (by unfold maxLen;omega) (by omega) (by simp;omega) ?_;intro v1 Q F v _;have h:Bx Q D.heap.size 55 #[.int .i64 N,.int .i64 (z:Int),.int .i64 R,.int .i64 U,.bool S,.int .u64 (T:Int)]:=((Bx.new D 55 _).alloc _).grown v (qp g);have Kc:=ay (j.alloc r (.cells #[.int .i64 N,.int .i64 (z:Int),.int .i64 R,.int .i64 U,.bool S,.int .u64 (T:Int)] 55)) (by simp;omega) (g.alloc _) v;have hc1:Q.cell? ⟨D.heap.size,1,none⟩=some (.int .i64 (z:Int)):=h.cell 1;have hf1:=h.frozen 1;have hl1:=h.lt;clear v h);go_roundw;exact⟨i+z,f++[⟨N,(z:Int),R,U,S,T⟩],by rw[kjo],by omega,by have:=Eq.out;have:=Kb.out;omega,p.out,by simp;omega,by rw[K.out,kqu];exact F,Kc⟩;simp[intOf];omega
  have M:i=G.length:=(by omega);have d:=y5 (show blocks G k=some f by rw[t.out,aH (by omega)];simp);clear M H;go_wp2;go_ret2;exact⟨Cd d.out o,y⟩
end Go.Proofs.YtpcajamacpbjcaaGreat
