/- Changes of devices: what the program returns (a list of words from an address on). -/
import Derived.Test.YtpcajamacpbjcaaGreatZGC
import Derived.Test.YtpcajamacpbjcaaGreatZKHead
set_option maxHeartbeats 16000000
set_option maxRecDepth 100000
set_option linter.all false
namespace Go.Proofs.YtpcajamacpbjcaaGreat
open Lib (hid)
open Go.RowKit
open Go.Proofs.Tryz
theorem C2:∀(l:List Nat) (a:Int) (k:Nat) (h:k<l.length),lsE a (l.take (k+1))=lsE a (l.take k)++[⟨a+(k:Int),l[k]⟩]:=by
 intro l
 induction l with
 | nil=>intro a k h;simp at h
 | cons v l ih =>
  intro a k h;cases k with
  | zero=>simp[lsE]
  | succ k =>rw[kxp,kxp];simp only[lsE];rw[ih (a+1) k (by simpa using h),kzq];simp only[kqb];rw[show a+1+(k:Int)=a+((k+1:Nat):Int) by omega]
theorem tW(A:Option Addr)(l:List Nat)(c n a:Nat)(w:World)(hn:l.length=n)(hm:n<=64)(ha:a<=2048)(hr:RdW w w.heap.size A l):
 Calls prog 129 #[.int .i64 (a:Int),.slice A n c] w λe w'=>(∃q r,e=.returned (.slice q n r)/\w'.ownsRow w.heap.size 89 2 (.slice q n r) n ((lsE (a:Int) l).flatMap En.cells))/\Below w.heap.size w w':=by
 subst hn;have I:=hid hr;have z:=hid (λk h=>C2 l (a:Int) k h);clear hr;obtain⟨H,C,j,o,p⟩:=kzv dm;have G:=hid C;have s:=hid j;have u:=hid o;have t:=hid p;clear C j o p;go_enter func129,ntmps129;go_wp2_with fail;go_loopw [5,9] (λv i wr=>∃k:Nat,k<=l.length/\i=.int .i64 k/\wr.ownsRow w.heap.size 89 2 v k ((lsE (a:Int) (l.take k)).flatMap En.cells)/\Below w.heap.size w wr) (λ_ i _=>l.length-(intOf i).toNat)
 case atStart=>exact⟨0,kqy _,rfl,kq8 _ _ _ _,kql _ _⟩
 rename_i v5 _;obtain⟨k,hk,rfl,d,g⟩:=hrel;have hz:=g.size;by_cases m:k<l.length
 .obtain ⟨b,off,rfl,hbb,F⟩:=RdW.at_ (I.out.below g) m;have E:=hid (z.out k m);obtain⟨x,D⟩:=xq (l[k]);rw[D] at F E;have ik1:(0:Int)<=(k:Int):=by omega
  have ik2:(k:Int)<(l.length:Int):=by omega
  have hwa:IntKind.i64.wrap ((a:Int)+(k:Int))=(a:Int)+(k:Int):=kqs _ (by omega);clear D;go_wp2_with (at_builtin;refine kzd _ rfl _ _ 26 rfl w.heap.size 89 H _ 2 16 underlying26 G.out s.out u.out t.out rfl (by decide) _ _ _ rfl (d.alloc _) ⟨_,0,none⟩ 1 1 [.int .i64 ((a:Int)+(k:Int)),.int .u64 (x:Int)] rfl rfl (cC _ _ _) (by simp[Value.oneCell']) (by unfold maxLen;omega) (by omega) (cB g.size) ?_;intro v1 w1 f y _;have B:=aC g g.size d y);go_roundw
  case rel=>exact⟨k+1,by omega,by go_num,by rw[E.out,ce];exact f,B⟩
  case measure=>simp[intOf];omega
 obtain rfl:k=l.length:=by omega
 rw[kzn] at d;obtain⟨q,r,rfl⟩:=aJ d;go_wp2;go_ret;exact⟨⟨q,r,rfl,d⟩,g⟩
theorem wV(s:Nat):s &&& 288230376151711743=s%288230376151711744:=by rw[show (288230376151711743:Nat)=2 ^ 58-1 from rfl,kxu]
theorem Es(w:World):Calls prog 224 #[.int .i64 0,.int .i64 58] w λe w'=>e=.returned (.int .u64 288230376151711743)/\w=w':=by go_enter func224,ntmps224;go_wp2;go_ret;exact⟨rfl,rfl⟩
theorem Hh(s:Nat)(w:World)(hs:s<18446744073709551616):Calls prog 223 #[.int .u64 (s:Int),.int .i64 0,.int .i64 58] w λe w'=>e=.returned (.tuple #[.int .u64 ((s%288230376151711744:Nat):Int),.int .i64 0])/\w=w':=by have b:=hid (u64_and_nat s 288230376151711743 hs (by omega));clear hs;go_enter func223,ntmps223;go_wp2_with fail;refine (Es w).mono ?_;rintro e w1 ⟨rfl,rfl⟩;have a:=b.out;rw[wV] at a;go_wp2;go_ret2;exact⟨by rw[<-a];rfl,rfl⟩
theorem vS(A:Option Addr)(l:List Nat)(c n:Nat)(w:World)(hn:l.length=n)(hm:n<=2048)(a:RdW w w.heap.size A l)(ho:∀x∈l,x<18446744073709551616):
 Calls prog 177 #[.slice A n c,.int .i64 58] w λe w'=>e=.returned (.tuple #[.int .u64 ((aS 14695981039346656037 l%288230376151711744:Nat):Int),.int .i64 0])/\Below w.heap.size w w':=by have k:=hid a;have j:=hid ho;have i:=hid hn;clear a ho hn;have h:=hid (gP (s:=14695981039346656037) (by omega) l);go_enter func177,ntmps177;go_wp2_with fail;refine (qj A l c n w i.out hm k.out j.out).mono ?_;rintro e w1 ⟨rfl,b⟩;obtain⟨q,g⟩:=xq (aS 14695981039346656037 l);have d:=hid g;rw[g] at h |-;clear g;go_wp2_with fail;refine (Hh q _ h.out).mono ?_;rintro e w2 ⟨rfl,rfl⟩;obtain⟨r,a⟩:=xq (q%288230376151711744);have f:=hid a;rw[a];clear a;go_wp2;go_ret2;exact⟨by rw[d.out,f.out];rfl,b⟩
theorem FY:∀k:Fin 64,bits .andNot .u64 ((k.val:Nat):Int) 18446744073709551552=((k.val:Nat):Int):=by decide +kernel
theorem Ib(k s:Nat)(hk:k<64)(hs:s<288230376151711744):bits .or .u64 (bits .andNot .u64 (k:Int) 18446744073709551552) ((s:Int)*64)=((k+s*64:Nat):Int):=by rw[FY ⟨k,hk⟩];have h:=u64_or_nat k (s*64) (by omega) (by omega);rw[show (((s*64:Nat):Int))=(s:Int)*64 by omega] at h;rw[h];have a:=Nat.two_pow_add_eq_or_of_lt (i:=6) (b:=k) (by omega) s;rw[Nat.or_comm,show s*64=2 ^ 6*s by omega,<-a];omega
theorem F2(w:World):Calls prog 224 #[.int .i64 6,.int .i64 58] w λe w'=>e=.returned (.int .u64 18446744073709551552)/\w=w':=by go_enter func224,ntmps224;go_wp2;go_ret;exact⟨rfl,rfl⟩
theorem setW_c(k s:Nat)(w:World)(hk:k<64)(hs:s<288230376151711744):Calls prog 178 #[.int .u64 (k:Int),.int .i64 6,.int .i64 58,.int .u64 (s:Int)] w λe w'=>e=.returned (.tuple #[.int .u64 ((k+s*64:Nat):Int),.int .i64 0])/\w=w':=by
 have hs2:¬ ((288230376151711743:Int)<(s:Int)):=by omega
 have a:=hid hs;have b:=hid hk;clear hs hk;go_enter func178,ntmps178;go_wp2_with fail;refine (F2 w).mono ?_;rintro e w1 ⟨rfl,rfl⟩;go_wp2;go_ret2;exact⟨by rw[<-Ib k s b.out a.out];rfl,rfl⟩
theorem vf{l:List En}(ho:∀e∈l,e.ok):∀x∈cn l,x<18446744073709551616:=by
 induction l with
 | nil=>intro x a;simp[cn] at a
 | cons e l ih =>
  intro x a;have b:=ho e (by simp);unfold En.ok at b;simp only[cn,kqx] at a;rcases a with rfl|rfl|a
  .omega
  .omega
  exact ih (λy c=>ho y (by simp[c])) x a
theorem CK(A:Option Addr)(l:List En)(c n:Nat)(ws:Int)(w:World)(hn:l.length=n)(h0:0<n)(hm:n<=32)(he:eh (cE l) ws=0)(hr:RdE w w.heap.size A l)(ho:∀e∈l,e.ok):
 Calls prog 126 #[.slice A n c,.int .i64 ws] w λe w'=>e=.returned (.tuple #[.int .u64 (cmW l:Int),.int .i64 0])/\Below w.heap.size w w':=by
 have i:=hid (oU A l c n ws w hn (by omega) hr ho);unfold B8 at i;have v:dZ l ws=cn l:=by simp[dZ,he]
 rw[v,he] at i;obtain⟨N,j⟩:=xq ((cn l).length);have hN2:N<=64:=by have:=ib l;omega
 rw[j] at i;have o:=hid (vf ho);have B:=hid j;have b:Hid ((cmW l:Nat)=n+aS 14695981039346656037 (cn l)%288230376151711744*64):=hid (by unfold cmW;rw[hn];omega);clear v j ho he hn;have hnz:¬ ((n:Int)=0):=by omega
 clear hr;go_enter func126,ntmps126;go_wp2_with fail;refine i.out.mono ?_;rintro e r ⟨⟨u,z,rfl,d⟩,g⟩;have t:=hid (show RdW r r.heap.size u (cn l) from Rd.of_own d);have f:=hid g;clear d g;go_wp2_with fail;refine (vS u (cn l) z N r B.out (by omega) t.out o.out).mono ?_;rintro e y ⟨rfl,h⟩;have p:=hid (f.out.trans (h.mono f.out.size));clear h;obtain⟨s,m⟩:=xq (aS 14695981039346656037 (cn l)%288230376151711744);have a:s<288230376151711744:=by rw[<-m];exact kz0 _ (by omega)
 rw[m] at b |-;have k:=hid (λW=>setW_c n s W (by omega) a);have hwn:IntKind.u64.wrap (n:Int)=(n:Int):=by rw[IntKind.wrap_u64];omega
 clear m a;go_wp2_with fail;refine (k.out y).mono ?_;rintro e w3 ⟨rfl,rfl⟩;obtain⟨q,x⟩:=xq (n+s*64);rw[x] at b |-;clear x;go_wp2;go_ret2;exact⟨by rw[b.out];rfl,p.out⟩
end Go.Proofs.YtpcajamacpbjcaaGreat
