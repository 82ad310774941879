/- Changes of devices: what the program returns (a list of words from an address on). -/
import Derived.Test.YtpcajamacpbjcaaGreatZGC
import Derived.Test.YtpcajamacpbjcaaGreatZKHead
set_option maxHeartbeats 16000000
set_option maxRecDepth 100000
set_option linter.all false
namespace Go.Proofs.YtpcajamacpbjcaaGreat
open Lib (hid)
open Go.RowKit
open Go.Proofs.Tryz
theorem EC:∀(l:List Nat) (a:Int) (k:Nat) (h:k<l.length),lsE a (l.take (k+1))=lsE a (l.take k)++[⟨a+(k:Int),l[k]⟩]:=by
 intro l
 induction l with
 | nil=>intro a k h;simp at h
 | cons v l ih =>
  intro a k h;cases k with
  | zero=>simp[lsE]
  | succ k =>rw[kxs,kxs];simp only[lsE];rw[ih (a+1) k (by simpa using h),kzn];simp only[kqc];rw[show a+1+(k:Int)=a+((k+1:Nat):Int) by omega]
theorem vf(A:Option Addr)(l:List Nat)(c n a:Nat)(w:World)(hn:l.length=n)(hm:n<=64)(ha:a<=2048)(hr:RdW w w.heap.size A l):
 Calls prog 129 #[.int .i64 (a:Int),.slice A n c] w λe w'=>(∃q r,e=.returned (.slice q n r)/\w'.ownsRow w.heap.size 89 2 (.slice q n r) n ((lsE (a:Int) l).flatMap En.cells))/\Below w.heap.size w w':=by
 subst hn;have H:=hid hr;have B:=hid (λk h=>EC l (a:Int) k h);clear hr;obtain⟨I,D,j,m,o⟩:=kzr dD;have G:=hid D;have s:=hid j;have y:=hid m;have t:=hid o;clear D j m o;go_enter func129,ntmps129;go_wp2_with fail;go_loopw [5,9] (λv i wr=>∃k:Nat,k<=l.length/\i=.int .i64 k/\wr.ownsRow w.heap.size 89 2 v k ((lsE (a:Int) (l.take k)).flatMap En.cells)/\Below w.heap.size w wr) (λ_ i _=>l.length-(intOf i).toNat)
 case atStart=>exact⟨0,kqz _,rfl,kq6 _ _ _ _,kqk _ _⟩
 rename_i v5 _;obtain⟨k,hk,rfl,d,g⟩:=hrel;have hz:=g.size;by_cases p:k<l.length
 .obtain ⟨b,off,rfl,hbb,F⟩:=RdW.at_ (H.out.below g) p;have E:=hid (B.out k p);obtain⟨x,C⟩:=xq (l[k]);rw[C] at F E;have ik1:(0:Int)<=(k:Int):=by omega
  have ik2:(k:Int)<(l.length:Int):=by omega
  have hwa:IntKind.i64.wrap ((a:Int)+(k:Int))=(a:Int)+(k:Int):=kqt _ (by omega);clear C;go_wp2_with (at_builtin;refine kzh _ rfl _ _ 26 rfl w.heap.size 89 I _ 2 16 underlying26 G.out s.out y.out t.out rfl (by decide) _ _ _ rfl (d.alloc _) ⟨_,0,none⟩ 1 1 [.int .i64 ((a:Int)+(k:Int)),.int .u64 (x:Int)] rfl rfl (cI _ _ _) (by simp[Value.oneCell']) (by unfold maxLen;omega) (by omega) (aS g.size) ?_;intro v1 w1 f u _;have z:=aF g g.size d u);go_roundw
  case rel=>exact⟨k+1,by omega,by go_num,by rw[E.out,cB];exact f,z⟩
  case measure=>simp[intOf];omega
 obtain rfl:k=l.length:=by omega
 rw[kzf] at d;obtain⟨q,r,rfl⟩:=aE d;go_wp2;go_ret;exact⟨⟨q,r,rfl,d⟩,g⟩
def cnE (v:Nat):Int:=if v=0 then 6 else if v%64<1\/32<v%64 then 50 else 0
def cnK (v:Nat):Nat:=if cnE v=0 then v%64 else 0
def cnS (v:Nat):Nat:=if cnE v=0 then v/64 else 0
theorem and63(v:Nat)(hv:v<18446744073709551616):wrap64 (bits .and .u64 (v:Int) 63)=((v%64:Nat):Int):=by have h:=u64_and_nat v 63 hv (by omega);have b:v &&& 63=v%64:=kxk v 6;rw[b] at h;have a:bits .and .u64 (v:Int) 63=((v%64:Nat):Int):=h;rw[a];unfold wrap64;omega
theorem cnt_c(v:Nat)(w:World)(hv:v<18446744073709551616):
 Calls prog 168 #[.int .u64 (v:Int)] w λe w'=>e=.returned (.tuple #[.int .i64 (cnK v:Int),.int .u64 (cnS v:Int),.int .i64 (cnE v)])/\w'=w:=by
 have h:Hid (∀k s e,cnK v=k->cnS v=s->cnE v=e->∀W:World,W=w->(Ending.returned (.tuple #[.int .i64 (k:Int),.int .u64 (s:Int),.int .i64 e])=.returned (.tuple #[.int .i64 (cnK v:Int),.int .u64 (cnS v:Int),.int .i64 (cnE v)]))/\W=w):=hid (λk s e o p n W r=>by rw[o,p,n];exact⟨rfl,r⟩);by_cases j:v=0
 .have a:cnE v=6:=by unfold cnE;rw[if_pos j]
  have c:cnK v=0:=by unfold cnK;rw[if_neg (by rw[a];omega)]
  have d:cnS v=0:=by unfold cnS;rw[if_neg (by rw[a];omega)]
  have f:=hid (h.out 0 0 6 c d a w rfl);clear a c d h;subst j;go_enter func168,ntmps168;go_wp2;go_ret3;exact⟨f.out.1,rfl⟩
 have hz:((v:Int)==0)=false:=by rw[kqi];omega
 have q:=and63 v hv;have m:v%64<64:=kz0 _ (by omega);obtain⟨x,g⟩:=xq (v%64);rw[g] at q m;by_cases b:x<1\/32<x
 .have a:cnE v=50:=by unfold cnE;rw[if_neg j,g,if_pos b]
  have c:cnK v=0:=by unfold cnK;rw[if_neg (by rw[a];omega)]
  have d:cnS v=0:=by unfold cnS;rw[if_neg (by rw[a];omega)]
  have f:=hid (h.out 0 0 50 c d a w rfl);clear a c d h g;rcases b with b|b
  .have i:(x:Int)<1:=by omega
   clear b;go_enter func168,ntmps168;go_wp2;go_ret3;exact⟨f.out.1,rfl⟩
  have i:¬ ((x:Int)<1):=by omega
  have l:(32:Int)<(x:Int):=by omega
  clear b;go_enter func168,ntmps168;go_wp2;go_ret3;exact⟨f.out.1,rfl⟩
 have a:cnE v=0:=by unfold cnE;rw[if_neg j,g,if_neg b]
 have c:cnK v=x:=by unfold cnK;rw[if_pos a,g]
 have d:cnS v=v/64:=by unfold cnS;rw[if_pos a]
 have f:=hid (h.out x (v/64) 0 c d a w rfl);rw[Int.natCast_ediv] at f;have i:¬ ((x:Int)<1):=by omega
 have l:¬ (32:Int)<(x:Int):=by omega
 clear a c d h g b;go_enter func168,ntmps168;go_wp2;go_ret3;exact⟨f.out.1,rfl⟩
theorem yG(s:Nat):s &&& 288230376151711743=s%288230376151711744:=by rw[show (288230376151711743:Nat)=2 ^ 58-1 from rfl,kxk]
theorem Fq(w:World):Calls prog 224 #[.int .i64 0,.int .i64 58] w λe w'=>e=.returned (.int .u64 288230376151711743)/\w=w':=by go_enter func224,ntmps224;go_wp2;go_ret;exact⟨rfl,rfl⟩
theorem Iu(s:Nat)(w:World)(hs:s<18446744073709551616):Calls prog 223 #[.int .u64 (s:Int),.int .i64 0,.int .i64 58] w λe w'=>e=.returned (.tuple #[.int .u64 ((s%288230376151711744:Nat):Int),.int .i64 0])/\w=w':=by have b:=hid (u64_and_nat s 288230376151711743 hs (by omega));clear hs;go_enter func223,ntmps223;go_wp2_with fail;refine (Fq w).mono ?_;rintro e w1 ⟨rfl,rfl⟩;have a:=b.out;rw[yG] at a;go_wp2;go_ret2;exact⟨by rw[<-a];rfl,rfl⟩
theorem yy(A:Option Addr)(l:List Nat)(c n:Nat)(w:World)(hn:l.length=n)(hm:n<=2048)(a:RdW w w.heap.size A l)(ho:∀x∈l,x<18446744073709551616):
 Calls prog 177 #[.slice A n c,.int .i64 58] w λe w'=>e=.returned (.tuple #[.int .u64 ((a8 14695981039346656037 l%288230376151711744:Nat):Int),.int .i64 0])/\Below w.heap.size w w':=by have j:=hid a;have i:=hid ho;have k:=hid hn;clear a ho hn;have h:=hid (iY (s:=14695981039346656037) (by omega) l);go_enter func177,ntmps177;go_wp2_with fail;refine (qo A l c n w k.out hm j.out i.out).mono ?_;rintro e w1 ⟨rfl,b⟩;obtain⟨q,d⟩:=xq (a8 14695981039346656037 l);have f:=hid d;rw[d] at h |-;clear d;go_wp2_with fail;refine (Iu q _ h.out).mono ?_;rintro e w2 ⟨rfl,rfl⟩;obtain⟨r,a⟩:=xq (q%288230376151711744);have g:=hid a;rw[a];clear a;go_wp2;go_ret2;exact⟨by rw[f.out,g.out];rfl,b⟩
theorem Jw:∀k:Fin 64,bits .andNot .u64 ((k.val:Nat):Int) 18446744073709551552=((k.val:Nat):Int):=by decide +kernel
theorem Jg(k s:Nat)(hk:k<64)(hs:s<288230376151711744):bits .or .u64 (bits .andNot .u64 (k:Int) 18446744073709551552) ((s:Int)*64)=((k+s*64:Nat):Int):=by rw[Jw ⟨k,hk⟩];have h:=u64_or_nat k (s*64) (by omega) (by omega);rw[show (((s*64:Nat):Int))=(s:Int)*64 by omega] at h;rw[h];have a:=Nat.two_pow_add_eq_or_of_lt (i:=6) (b:=k) (by omega) s;rw[Nat.or_comm,show s*64=2 ^ 6*s by omega,<-a];omega
theorem JO(w:World):Calls prog 224 #[.int .i64 6,.int .i64 58] w λe w'=>e=.returned (.int .u64 18446744073709551552)/\w=w':=by go_enter func224,ntmps224;go_wp2;go_ret;exact⟨rfl,rfl⟩
theorem setW_c(k s:Nat)(w:World)(hk:k<64)(hs:s<288230376151711744):Calls prog 178 #[.int .u64 (k:Int),.int .i64 6,.int .i64 58,.int .u64 (s:Int)] w λe w'=>e=.returned (.tuple #[.int .u64 ((k+s*64:Nat):Int),.int .i64 0])/\w=w':=by
 have hs2:¬ ((288230376151711743:Int)<(s:Int)):=by omega
 have a:=hid hs;have b:=hid hk;clear hs hk;go_enter func178,ntmps178;go_wp2_with fail;refine (JO w).mono ?_;rintro e w1 ⟨rfl,rfl⟩;go_wp2;go_ret2;exact⟨by rw[<-Jg k s b.out a.out];rfl,rfl⟩
theorem wy{l:List En}(ho:∀e∈l,e.ok):∀x∈bM l,x<18446744073709551616:=by
 induction l with
 | nil=>intro x a;simp[bM] at a
 | cons e l ih =>
  intro x a;have b:=ho e (by simp);unfold En.ok at b;simp only[bM,kqw] at a;rcases a with rfl|rfl|a
  .omega
  .omega
  exact ih (λy c=>ho y (by simp[c])) x a
theorem vy(A:Option Addr)(l:List En)(c n:Nat)(ws:Int)(w:World)(hn:l.length=n)(h0:0<n)(hm:n<=32)(he:dL (av l) ws=0)(hr:RdE w w.heap.size A l)(ho:∀e∈l,e.ok):
 Calls prog 126 #[.slice A n c,.int .i64 ws] w λe w'=>e=.returned (.tuple #[.int .u64 (cmW l:Int),.int .i64 0])/\Below w.heap.size w w':=by
 have i:=hid (pR A l c n ws w hn (by omega) hr ho);unfold Cc at i;have v:eE l ws=bM l:=by simp[eE,he]
 rw[v,he] at i;obtain⟨N,t⟩:=xq ((bM l).length);have hN2:N<=64:=by have:=fS l;omega
 rw[t] at i;have m:=hid (wy ho);have y:=hid t;have b:Hid ((cmW l:Nat)=n+a8 14695981039346656037 (bM l)%288230376151711744*64):=hid (by unfold cmW;rw[hn];omega);clear v t ho he hn;have hnz:¬ ((n:Int)=0):=by omega
 clear hr;go_enter func126,ntmps126;go_wp2_with fail;refine i.out.mono ?_;rintro e j ⟨⟨u,B,rfl,g⟩,h⟩;have k:=hid (show RdW j j.heap.size u (bM l) from Rd.of_own g);have f:=hid h;clear g h;go_wp2_with fail;refine (yy u (bM l) B N j y.out (by omega) k.out m.out).mono ?_;rintro e z ⟨rfl,d⟩;have p:=hid (f.out.trans (d.mono f.out.size));clear d;obtain⟨s,r⟩:=xq (a8 14695981039346656037 (bM l)%288230376151711744);have a:s<288230376151711744:=by rw[<-r];exact kz0 _ (by omega)
 rw[r] at b |-;have o:=hid (λW=>setW_c n s W (by omega) a);have hwn:IntKind.u64.wrap (n:Int)=(n:Int):=by rw[IntKind.wrap_u64];omega
 clear r a;go_wp2_with fail;refine (o.out z).mono ?_;rintro e w3 ⟨rfl,rfl⟩;obtain⟨q,x⟩:=xq (n+s*64);rw[x] at b |-;clear x;go_wp2;go_ret2;exact⟨by rw[b.out];rfl,p.out⟩
end Go.Proofs.YtpcajamacpbjcaaGreat
