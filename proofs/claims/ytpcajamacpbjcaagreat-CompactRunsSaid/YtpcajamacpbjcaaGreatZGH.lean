import Derived.Test.YtpcajamacpbjcaaGreatZKRefs
import Derived.Test.YtpcajamacpbjcaaGreatZKMove
import Derived.Test.YtpcajamacpbjcaaGreatZKRch
set_option maxHeartbeats 16000000
set_option maxRecDepth 100000
set_option linter.all false
namespace Go.Proofs.YtpcajamacpbjcaaGreat
open Go.RowKit
open Go.Proofs.Tryz
theorem po(A:Option Addr)(l:List Nat)(c n B:Nat)(w:World)(b:l.length=n)(h8:n<=8)(d:fM l=true)(a:RdY w B A l):
 Calls prog 136 #[.slice A n c] w λe f=>e=.returned (.int .i64 0)/\w=f:=by
 subst b;obtain⟨g,f⟩:=yq0 a d;clear a d;go_enter func136,ntmps136;go_wp2_with fail
 go_loop [3] (λi=>∃k:Nat,k<=l.length/\i=.int .i64 k) (λi=>l.length-(intOf i).toNat)
 case atStart=>exact⟨0,kqv _,rfl⟩
 obtain⟨k,d,rfl⟩:=hrel;by_cases a:k<l.length
 .obtain ⟨b,off,rfl,hb,j⟩:=g.out.at_ a;obtain⟨h,i⟩:=(eW l).1 f.out l[k] (kqp a);obtain⟨x,e⟩:=xq (l[k]);rw[e] at j h i;have e1:((x:Int)==0)=false:=(by rw[kqc];omega);clear e;go_wp2_with fail
  go_round
  case rel=>exact⟨k+1,by omega,by go_num⟩
  case measure=>simp[intOf];omega
 go_wp2;go_ret;exact⟨rfl,rfl⟩
theorem pV(A:Option Addr)(l:List Nat)(c n:Nat)(w:World)(g:l.length=n)(f:n<=2048)(d:RdW w w.heap.size A l)(a:∀x∈l,x<2^64):
 Calls prog 138 #[.slice A n c] w λe b=>e=.returned (.int .u64 (aR 14695981039346656037 l:Nat))/\Below w.heap.size w b:=by have b:=y5 (vF 14695981039346656037 A l c n w g f (by omega) d a);clear d a;obtain⟨q,a⟩:=xq (aR 14695981039346656037 l);rw[a] at b |-;clear a;go_enter func138,ntmps138;go_wp2_with fail;refine b.out.mono ?_;rintro e w1 ⟨rfl,a⟩;go_wp2;go_ret;exact⟨rfl,a⟩
def tyPut (w:List Nat) (i:Nat) (t:List Nat):List Nat:=(w.set (96+2*i) (ko t)).set (96+2*i+1) (jt (ko t))
def Gd (ts:List (List Nat)) (w:List Nat):Nat->List Nat
 | 0=>w
 | k+1=>tyPut (Gd ts w k) k (ts[k]?.getD [])
def bkPut (w:List Nat) (a:Nat) (b:Bk):List Nat:=(w.set a (cQ b)).set (a+1) b.next
def vc (bs:List Bk) (s:List Nat × Nat):Nat->List Nat × Nat
 | 0=>s
 | k+1=>(bkPut (vc bs s k).1 (vc bs s k).2 (gk bs k),(vc bs s k).2+(gk bs k).size.toNat)
def eQ (n:Nat):Bk:=⟨0,(n:Int),2,0,false,0⟩
structure Ty where
 A:Option Addr
 c:Nat
 l:List Nat
 deriving Inhabited
def Ty.cells (x:Ty):List Value:=[.slice x.A x.l.length x.c]
theorem Ty.len(x:Ty):x.cells.length=1:=rfl
theorem Rd.of_bx{w:World}{g B:Nat}{t:TypeId}{cs:Array Value}(h:Bx w g t cs)(a:g<B):Rd w B (some ⟨g,0,none⟩) cs.toList:=λ_ =>
 ⟨g,0,rfl,a,λj hj=>by
  rw[kxg,h.cell j]
  simp⟩
def fits (n:Nat) (ts:List (List Nat)) (bs:List Bk) (k:Nat):Prop:=(0<=(gk bs k).kind/\(gk bs k).kind<256)/\(0<=(gk bs k).typ/\(gk bs k).typ<128)/\(2<=(gk bs k).size/\(gk bs k).size<65536)/\(vc bs (Gd ts (List.replicate n 0) ts.length,128) k).2+(gk bs k).size.toNat<=n
instance (n:Nat) (ts:List (List Nat)) (bs:List Bk) (k:Nat):Decidable (fits n ts bs k):=by unfold fits;infer_instance
theorem fW{a b:Nat}(h:b8 a b=true):a%256<=8/\fM (cG a)=true/\jt a=b/\a/256/4 ^ (a%256)=0:=by
 have c:=h;rw[kD] at c;simp only[kqs,kze,kqw] at c;obtain⟨⟨e,d⟩,h4,f⟩:=c;refine⟨e,d,f,?_⟩;have g:=ta (cG a) 4 (λk i=>((eW _).1 d k i).2);rw[dp] at g;have h7:a=(a%256)+oE (cG a) 4:=by have:ko (cG a)=(cG a).length+oE (cG a) 4:=rfl;rw[dp] at this;omega
 have h8:(4:Nat) ^ (4+a%256)=256*4 ^ (a%256):=by rw[kkb]
 have i:a<256*4 ^ (a%256):=(by omega);rw[kxj];exact Nat.div_eq_of_lt i
theorem rI(a k:Nat):a/256/4 ^ k%4=a/4 ^ (k+4)%4/\a/256/4 ^ k/4=a/256/4 ^ (k+1):=by
 refine⟨?_,?_⟩
 .rw[kxj,show (4:Nat) ^ (k+4)=256*4 ^ k by rw[kkb,kjv]]
 rw[kxj (a/256),kj3]
theorem B6(a b:Nat)(w:World)(p:a<18446744073709551616)(h:b8 a b=true):
 Calls prog 287 #[.int .u64 (a:Int)] w λe d=>(∃A c,e=.returned (.tuple #[.slice A (cG a).length c,.bool true])/\RdY d d.heap.size A (cG a))/\Below w.heap.size w d:=by
 obtain⟨B,i,-,o⟩:=fW h;obtain⟨f,j,s,F,n⟩:=yq3 (dp a) (λk h=>mI a k h) (λk=>rI a k) i o;obtain⟨m,g⟩:=xq (a%256);rw[g] at f j n B;have d:(a:Int)%256=(m:Int):=(by omega);have l:=y5 d;have w1':IntKind.u64.wrap ((a:Int)/256)=(a:Int)/256:=kzi _ (by omega);have ha0:(0:Int)<=(a:Int):=(by omega);have d8:decide ((a:Int)%256<=8)=true:=(by rw[kqh];omega);have D:=y5 p;clear g h i o p d;obtain⟨G,i,d,g,h⟩:=kzh j9;obtain⟨E,t,u,x⟩:=yq2 i d g h;clear i d g h;go_enter func287,ntmps287;go_wp2_with fail;go_loopw [5,6,7] (λv r i wr=>∃k:Nat,k<=m/\i=.int .u64 k/\r=.int .u64 ((a/256/4 ^ k:Nat):Int)/\wr.ownsRow w.heap.size 5 1 v k (((cG a).take k).flatMap bq)/\Below w.heap.size w wr) (λ_ _ i _=>m-(intOf i).toNat)
 case atStart=>exact⟨0,kqv _,rfl,by simp,kq3 _ _ _ _,kqe _ _⟩
 obtain⟨k,hk,rfl,rfl,d,i⟩:=hrel;have hz:=i.size;by_cases o:k<m
 .obtain ⟨y,z⟩:=s.out k;have g:=j.out k o;rw[<-y] at g;have p:a/256/4 ^ k<18446744073709551616:=kjp (kkf _ _) (kjp (kkf _ _) D.out);obtain⟨r,v⟩:=xq (a/256/4 ^ k);rw[v] at y z g p;simp only[v];have q:=y5 (show (((a/256/4 ^ (k+1):Nat)):Int)=(r:Int)/4 by rw[<-z];omega);have h:=y5 (show ((cG a).take (k+1)).flatMap bq=((cG a).take k).flatMap bq++[.int .u8 ((r:Int)%4)] by
   have C:k<(cG a).length:=by rw[f.out];exact o
   rw[kqi C,ce];rw[kqg C] at g;rw[Option.some.inj g];rfl)
  have w2':IntKind.u64.wrap ((r:Int)/4)=(r:Int)/4:=kzi _ (by omega);have hr00:(0:Int)<=(r:Int):=(by omega);have hki:(k:Int)<(a:Int)%256:=by rw[l.out];omega
  have hk8:(k:Int)<8:=(by omega);have hw8:IntKind.u8.wrap ((r:Int)%4)=(r:Int)%4:=IntWalk.u8_in _ (by omega);clear g v y z p;go_wp2_with (at_builtin;refine kq7 _ rfl _ _ 113 rfl w.heap.size 5 G _ 1 1 underlying113 E.out t.out u.out x.out rfl (by decide) _ _ _ rfl (d.alloc _) ⟨_,0,none⟩ 1 1 [.int .u8 ((r:Int)%4)] rfl rfl (bc _ _ _) (by simp[Value.oneCell']) (by unfold maxLen;omega) (by omega) (cr i.size) ?_;intro v1 y g v _;have p:=ay i i.size d v);go_roundw;exact⟨k+1,by omega,by go_num,by rw[q.out],by rw[h.out];exact g,p⟩;simp[intOf];omega
 obtain rfl:k=m:=(by omega);rw[n.out];rw[kza (by rw[f.out];exact kqa _)] at d;obtain⟨h,p,rfl⟩:=aw d;obtain⟨q,g⟩:=yq0 (po h (cG a) p k wr.heap.size wr f.out B F.out (Rd.of_own d)) (Rd.of_own d);have hkn:decide ((k:Int)<(a:Int)%256)=false:=by rw[kqb,l.out];omega
 clear d;go_wp2_with fail;refine q.out.mono ?_;rintro e y ⟨rfl,rfl⟩;go_wp2;go_ret2;exact⟨⟨h,p,by rw[f.out];rfl,g.out⟩,i⟩
theorem zD(a b:Nat)(w:World)(d:a<18446744073709551616)(h:b8 a b=true):
 Calls prog 261 #[.int .u64 (a:Int),.int .u64 (b:Int)] w λe f=>(∃A c,e=.returned (.tuple #[.slice A (cG a).length c,.int .i64 0])/\RdY f f.heap.size A (cG a))/\Below w.heap.size w f:=by
 obtain⟨m,n⟩:=yq0 (B6 a b w d h) (λA W (f:RdW W W.heap.size A [a])=>pV A [a] 1 1 W rfl (by omega) f (λx f=>by rw[kq2] at f;rw[f];exact d));have f:=(fW h).2.2.1;rw[show aR 14695981039346656037 [a]=b from f] at n;obtain⟨l,g⟩:=xq (cG a);rw[g] at m |-;have hne:((b:Int) != (b:Int))=false:=(by simp);clear h f g d;go_enter func261,ntmps261;go_wp2_with fail;refine m.out.mono ?_;rintro e q ⟨⟨o,p,rfl,f⟩,d⟩;have j:=d.size;obtain⟨i,g⟩:=yq0 f d;clear f d;go_wp2_with fail;have k:=Bx.new q 53 #[.int .u64 (a:Int)];refine (n.out _ _ (show Rd _ _ _ _ from Rd.of_bx k k.lt)).mono ?_;rintro e r ⟨rfl,d⟩;obtain⟨h,f⟩:=yq0 ((g.out.alloc j (.cells #[.int .u64 (a:Int)] 53)).trans (d.mono (by simp;omega))) ((i.out.alloc (kqa _) (.cells #[.int .u64 (a:Int)] 53)).up (B':=r.heap.size) (d.mono (by simp)) (by have:=d.size;simp at this;omega));clear k d;go_wp2;go_ret2;exact⟨⟨o,p,rfl,f.out⟩,h.out⟩
theorem nA(A:Option Addr)(G:List Nat)(c n t:Nat)(w:World)(b:G.length=n)(hm:n<=1000000)(r:256<=n)(s:t<8)(h:b8 (wd G (96+2*t)) (wd G (96+2*t+1))=true)(m:RdW w w.heap.size A G)(q:∀x∈G,x<2^64):
 Calls prog 279 #[.slice A n c,.int .i64 (t:Int)] w λe a=>(∃A c,e=.returned (.tuple #[.slice A (cG (wd G (96+2*t))).length c,.bool true])/\RdI a a.heap.size A ((cG (wd G (96+2*t))).map λx:Nat=>(x:Int)))/\Below w.heap.size w a:=by
 subst b;have g:=fH q (96+2*t);have j:=y5 (λW=>zD (wd G (96+2*t)) (wd G (96+2*t+1)) W g h);obtain⟨b,d,rfl,D,i⟩:=RdW.at_ m (show 96+2*t<G.length by omega);obtain⟨b',off',F,-,k⟩:=RdW.at_ m (show 96+2*t+1<G.length by omega);cases F;rw[<-bY] at i k;have B:(cG (wd G (96+2*t))).length<=8:=by rw[dp];exact (fW h).1
 have C:=y5 (λx (g:x∈cG (wd G (96+2*t)))=>((eW _).1 (fW h).2.1 x g).2);obtain⟨l,o⟩:=xq (cG (wd G (96+2*t)));rw[o] at j B C |-;obtain⟨x,a⟩:=xq (wd G (96+2*t));obtain⟨y,f⟩:=xq (wd G (96+2*t+1));rw[a] at i j;rw[f] at k j;have t0:decide ((t:Int)<0)=false:=(by rw[kqb];omega);have t8:decide ((8:Int)<=(t:Int))=false:=(by rw[kqb];omega);have t8n:decide (8<=t)=false:=(by rw[kqb];omega);have w1:IntKind.i64.wrap (2*(t:Int))=2*(t:Int):=kqo _ (by omega);have J:IntKind.i64.wrap (96+2*(t:Int))=96+2*(t:Int):=kqo _ (by omega);have w3:IntKind.i64.wrap (96+2*(t:Int)+1)=96+2*(t:Int)+1:=kqo _ (by omega);have i1:(0:Int)<=96+2*(t:Int):=(by omega);have i2:(96:Int)+2*(t:Int)<(G.length:Int):=(by omega);have i3:(0:Int)<=96+2*(t:Int)+1:=(by omega);have i4:(96:Int)+2*(t:Int)+1<(G.length:Int):=(by omega);have n1:((96:Int)+2*(t:Int)).toNat=96+2*t:=(by omega);have n2:((96:Int)+2*(t:Int)+1).toNat=96+2*t+1:=(by omega);clear m g a f q s h o r;obtain⟨H,h,a,f,g⟩:=kzh nH;obtain⟨E,r,s,u⟩:=yq2 h a f g;clear h a f g;go_enter func279,ntmps279;go_wp2_with fail
 go_region_held3 (λX:World=>X.cell? ⟨b,d+(96+2*t),none⟩=some (.int .u64 (x:Int))/\X.cell? ⟨b,d+(96+2*t+1),none⟩=some (.int .u64 (y:Int))) (go_keep)
  (first | (go_at_call 261;refine (j.out _).mono ?_;rintro e m ⟨⟨A1,c1,rfl,f⟩,a⟩;have g:=(a.cell (p:=⟨b,d+(96+2*t),none⟩) D).trans i;have q:=(a.cell (p:=⟨b,d+(96+2*t+1),none⟩) D).trans k;have o:=y5 f;clear f))
 have h:=y5 ((kqe _ _).drew.trans a);clear a g q i k;go_wp2_with fail;go_loopw [8,9] (λv i wr=>∃k:Nat,k<=l.length/\i=.int .i64 k/\wr.ownsRow m.heap.size 3 1 v k (((l.take k).map λx:Nat=>(x:Int)).flatMap aV)/\Below m.heap.size m wr) (λ_ i _=>l.length-(intOf i).toNat)
 case atStart=>exact⟨0,kqv _,rfl,kq3 _ _ _ _,kqe _ _⟩
 obtain⟨k,hk,rfl,a,g⟩:=hrel;have hz:=g.size;by_cases e:k<l.length
 .obtain ⟨b2,o2,rfl,hb2,I⟩:=RdY.at_ (Rd.below o.out g) e;have i:=y5 (show (((l.take (k+1)).map λx:Nat=>(x:Int)).flatMap aV)=((l.take k).map λx:Nat=>(x:Int)).flatMap aV++[.int .i64 (l[k]:Int)] by rw[kqi e,kjf,kzv];rfl);have f:=C.out _ (kqp e);obtain⟨q,v⟩:=xq (l[k]);rw[v] at I i f;have hwq:wrap64 (q:Int)=(q:Int):=IntWalk.wrap64_in _ (by omega);have hlm:(k:Int)<(l.length:Int):=(by omega);have hl0:(0:Int)<=(k:Int):=(by omega);clear v f;go_wp2_with (at_builtin;refine kq7 _ rfl _ _ 42 rfl m.heap.size 3 H _ 1 8 underlying42 E.out r.out s.out u.out rfl (by decide) _ _ _ rfl (a.alloc _) ⟨_,0,none⟩ 1 1 [.int .i64 (q:Int)] rfl rfl (bc _ _ _) (by simp[Value.oneCell']) (by unfold maxLen;omega) (by omega) (cr g.size) ?_;intro v1 J f z _;have v:=ay g g.size a z);go_roundw;exact⟨k+1,by omega,by go_num,by rw[i.out];exact f,v⟩;simp[intOf];omega
 obtain rfl:k=l.length:=(by omega);rw[kza (kqa _)] at a;obtain⟨i,m,rfl⟩:=aw a;have f:=y5 (Rd.of_own a);clear a;go_wp2;go_ret2;exact⟨⟨i,m,rfl,f.out⟩,h.out.trans (g.mono h.out.size)⟩
theorem JC(a:Nat):∀n,oE ((List.range n).map λi=>a/4 ^ (i+4)%4) 4+256*(a/256/4 ^ n*4 ^ n)=256*(a/256):=by
 intro n
 induction n with
 | zero=>simp[oE]
 | succ n b =>
  rw[kkg,kjf,nZ];simp only[kj4,List.map_nil,oE,kzw,kko,kxb];have c:a/256/4 ^ (n+1)=a/256/4 ^ n/4:=by rw[kj3,kxj (a/256)]
  have d:a/4 ^ (n+4)=a/256/4 ^ n:=by rw[kxj,show (4:Nat) ^ (n+4)=256*4 ^ n by rw[kkb,kjv]]
  rw[c,d];obtain⟨q,i⟩:=xq (a/256/4 ^ n);rw[i] at b |-;have e:(4:Nat) ^ (4+n)=256*4 ^ n:=by rw[kkb]
  have f:(4:Nat) ^ (n+1)=4*4 ^ n:=by rw[kj3,kjv]
  rw[e,f];obtain⟨p,h⟩:∃p,(4:Nat) ^ n=p:=⟨_,rfl⟩;rw[h] at b |-;have g:q*p=(q%4)*p+(q/4)*(4*p):=by
   have:q=4*(q/4)+q%4:=(by omega);conv=>lhs;rw[this]
   rw[kjl,kjv 4 (q/4),kvy,kjj]
  rw[g] at b;have e6:q%4*(256*p)=256*(q%4*p):=by rw[Nat.mul_left_comm]
  omega
def Be (a:Nat):Bool:=decide (a%256<=8)&&(a/256/4 ^ (a%256)==0&&fM (cG a))
theorem Gs(a b:Nat):b8 a b=(Be a&&jt a==b):=by
 rw[kzk];constructor
 .intro h;obtain⟨c,d,f,g⟩:=fW h;unfold Be;simp[c,d,f,g]
 intro h;unfold Be at h;simp only[kqs,kze,kqw] at h;obtain⟨⟨c,d,f⟩,g⟩:=h;have j:=JC a (a%256);rw[d] at j;have e:ko (cG a)=a:=by
  have:ko (cG a)=(cG a).length+oE (cG a) 4:=rfl;rw[dp] at this;have e2:oE (cG a) 4=256*(a/256):=by have:oE (cG a) 4=oE ((List.range (a%256)).map λi=>a/4 ^ (i+4)%4) 4:=rfl;rw[this];omega
  omega
 unfold b8;simp[c,f,g,e]
theorem DP(A:Option Addr)(l:List Nat)(c n B:Nat)(w:World)(d:l.length=n)(t:n<=8)(f:∀x∈l,x<=3)(b:RdY w B A l):
 Calls prog 136 #[.slice A n c] w λe a=>e=.returned (.int .i64 (if fM l=true then 0 else 8))/\w=a:=by
 by_cases a:fM l=true
 .rw[if_pos a];exact po A l c n B w d t a b
 rw[if_neg a];subst d;obtain⟨q,m,o⟩:=yq1 b f a;clear b a f;go_enter func136,ntmps136;go_wp2_with fail
 go_loop [3] (λi=>∃k:Nat,k<=l.length/\i=.int .i64 k/\Hid (∀j (h:j<l.length),j<k->1<=l[j])) (λi=>l.length-(intOf i).toNat)
 case atStart=>exact⟨0,kqv _,rfl,y5 λj h g=>absurd g (by omega)⟩
 obtain⟨k,a,rfl,i⟩:=hrel;by_cases e:k<l.length
 .obtain ⟨b,off,rfl,hb,s⟩:=q.out.at_ e;have r:=m.out l[k] (kqp e);have d:Hid (1<=l[k]->∀j (h:j<l.length),j<k+1->1<=l[j]):=y5 λp j h g=>by
   rcases kq8 j k with f|f
   .exact i.out j h f
   have:j=k:=(by omega);subst this;exact p
  obtain⟨x,h⟩:=xq (l[k]);rw[h] at s r d;clear h;by_cases g:x=0
  .subst g;go_wp2;go_ret;exact⟨rfl,rfl⟩
  have e1:((x:Int)==0)=false:=(by rw[kqc];omega);have p:=y5 (d.out (by omega));clear g;go_wp2_with fail
  go_round
  case rel=>exact⟨k+1,by omega,by go_num,p⟩
  case measure=>simp[intOf];omega
 exfalso;refine o.out ((eW l).2 λx h=>?_);obtain⟨j,b,rfl⟩:=kqy h;exact⟨i.out j b (by omega),m.out _ (kqp b)⟩
theorem fldL_3(a:Nat):∀x∈cG a,x<=3:=λx b=>by unfold cG at b;obtain⟨i,-,rfl⟩:=kz9.1 b;omega
theorem Dg(a m:Nat):∀x∈(cG a).take m,x<=3:=λx b=>fldL_3 a x (kx3 b)
def Ib (H a:Nat) (e:Ending) (w':World):Prop:=∃A n c,e=.returned (.tuple #[.slice A n c,.bool (Be a)])/\(Be a=true->n=(cG a).length/\w'.ownsRow H 5 1 (.slice A n c) n ((cG a).flatMap bq))
theorem yl(a:Nat)(w:World)(d:a<18446744073709551616):
 Calls prog 287 #[.int .u64 (a:Int)] w λe b=>Ib w.heap.size a e b/\Below w.heap.size w b:=by
 obtain⟨j,t,A,G⟩:=yq2 (dp a) (λk h=>mI a k h) (λk=>rI a k) (Dg a);have x:Hid (Be a=(decide (a%256<=8)&&(a/256/4 ^ (a%256)==0&&fM (cG a)))):=y5 rfl;obtain⟨m,c⟩:=xq (a%256);rw[c] at j t x;have b:(a:Int)%256=(m:Int):=(by omega);have f:=y5 b;have w1':IntKind.u64.wrap ((a:Int)/256)=(a:Int)/256:=kzi _ (by omega);have ha0:(0:Int)<=(a:Int):=(by omega);have H:=y5 d;clear c d b;obtain⟨L,g,b,c,d⟩:=kzh j9;obtain⟨I,B,C,D⟩:=yq2 g b c d;clear g b c d;go_enter func287,ntmps287;go_wp2_with fail;go_loopw [5,6,7] (λv r i wr=>∃k:Nat,k<=m/\k<=8/\i=.int .u64 k/\r=.int .u64 ((a/256/4 ^ k:Nat):Int)/\wr.ownsRow w.heap.size 5 1 v k (((cG a).take k).flatMap bq)/\Below w.heap.size w wr) (λ_ _ i _=>m-(intOf i).toNat)
 case atStart=>exact⟨0,kqv _,kqv _,rfl,by simp,kq3 _ _ _ _,kqe _ _⟩
 obtain⟨k,hk,E,rfl,rfl,b,o⟩:=hrel;have hz:=o.size;by_cases d:k<m/\k<8
 .obtain ⟨d,hlt8⟩:=d;obtain⟨p,q⟩:=A.out k;have c:=t.out k d;rw[<-p] at c;have i:a/256/4 ^ k<18446744073709551616:=kjp (kkf _ _) (kjp (kkf _ _) H.out);obtain⟨r,l⟩:=xq (a/256/4 ^ k);rw[l] at p q c i;simp only[l];have n:=y5 (show (((a/256/4 ^ (k+1):Nat)):Int)=(r:Int)/4 by rw[<-q];omega);have g:=y5 (show ((cG a).take (k+1)).flatMap bq=((cG a).take k).flatMap bq++[.int .u8 ((r:Int)%4)] by
   have s:k<(cG a).length:=by rw[j.out];exact d
   rw[kqi s,ce];rw[kqg s] at c;rw[Option.some.inj c];rfl)
  have w2':IntKind.u64.wrap ((r:Int)/4)=(r:Int)/4:=kzi _ (by omega);have hr00:(0:Int)<=(r:Int):=(by omega);have hki:decide ((k:Int)<(a:Int)%256)=true:=by rw[kqh,f.out];omega
  have hk8':(k:Int)<8:=(by omega);have hw8:IntKind.u8.wrap ((r:Int)%4)=(r:Int)%4:=IntWalk.u8_in _ (by omega);clear c l p q i;go_wp2_with (at_builtin;refine kq7 _ rfl _ _ 113 rfl w.heap.size 5 L _ 1 1 underlying113 I.out B.out C.out D.out rfl (by decide) _ _ _ rfl (b.alloc _) ⟨_,0,none⟩ 1 1 [.int .u8 ((r:Int)%4)] rfl rfl (bc _ _ _) (by simp[Value.oneCell']) (by unfold maxLen;omega) (by omega) (cr o.size) ?_;intro v1 F c p _;have i:=ay o o.size b p);go_roundw;exact⟨k+1,by omega,by omega,by go_num,by rw[n.out],by rw[g.out];exact c,i⟩;simp[intOf];omega
 obtain⟨s,y,rfl⟩:=aw b;have z:((cG a).take k).length=k:=by rw[kq6,j.out];omega
 obtain⟨q,u⟩:=yq0 (DP s ((cG a).take k) y k wr.heap.size wr z E (G.out k) (Rd.of_own b)) b;obtain⟨r,l⟩:=xq (a/256/4 ^ k);have v:=y5 l;simp only[l];have c:(decide ((k:Int)<(a:Int)%256)&&decide ((k:Int)<8))=false:=by rw[kj6,kqb,kqb,f.out];omega
 by_cases p:m<=8
 .have g:k=m:=(by omega);subst g;rw[kza (by rw[j.out];exact kqa _)] at q u;have J:decide ((a:Int)%256<=8)=true:=by rw[kqh,f.out];omega
  have K:decide ((k:Int)<(a:Int)%256)=false:=by rw[kqb,f.out];omega
  by_cases n:r=0
  .subst n;cases g:fM (cG a)
   .have i:=y5 (show Be a=false by rw[x.out,g];simp);rw[g] at q;clear g b l d c;go_wp2_with fail;refine q.out.mono ?_;rintro e F ⟨rfl,rfl⟩;go_wp2;go_ret2;exact⟨⟨s,k,y,by rw[i.out];rfl,λh=>by rw[i.out] at h;cases h⟩,o⟩
   have i:=y5 (show Be a=true by rw[x.out,g,v.out,decide_eq_true p];rfl);rw[g] at q;clear g b l d c;go_wp2_with fail;refine q.out.mono ?_;rintro e F ⟨rfl,rfl⟩;go_wp2;go_ret2;exact⟨⟨s,k,y,by rw[i.out];rfl,λ_=>⟨j.out.symm,u.out⟩⟩,o⟩
  have i:=y5 (show Be a=false by rw[x.out,v.out,show (r==0)=false by rw[kqc];exact n];simp);have e0:((r:Int)==0)=false:=(by rw[kqc];omega);have e0n:(r==0)=false:=by rw[kqc];exact n
  clear b l d c n;go_wp2;go_ret2;exact⟨⟨s,k,y,by rw[i.out];rfl,λh=>by rw[i.out] at h;cases h⟩,o⟩
 have e:k=8:=(by omega);subst e;have i:=y5 (show Be a=false by rw[x.out,decide_eq_false p];rfl);have J:decide ((a:Int)%256<=8)=false:=by rw[kqb,f.out];omega
 have K:decide ((8:Int)<(a:Int)%256)=true:=by rw[kqh,f.out];omega
 clear b l d c p q;go_wp2;go_ret2;exact⟨⟨s,8,y,by rw[i.out];rfl,λh=>by rw[i.out] at h;cases h⟩,o⟩
theorem yn(a b:Nat)(w:World)(j:a<18446744073709551616):
 Calls prog 261 #[.int .u64 (a:Int),.int .u64 (b:Int)] w λe c=>mq w.heap.size a b e c/\Below w.heap.size w c:=by
 have l:=y5 (yl a w j);cases d:Be a
 .have h:b8 a b=false:=by rw[Gs,d];rfl
  have g:bB a b=[]:=by unfold bB;rw[h];rfl
  have i:ff a b=50:=by unfold ff;rw[h];rfl
  have f:=y5 (And.intro g i);unfold Ib at l;rw[d] at l;clear h d g i;go_enter func261,ntmps261;go_wp2_with fail;refine l.out.mono ?_;rintro e s ⟨⟨t,z,y,rfl,-⟩,c⟩;go_wp2;go_ret2;exact⟨⟨none,0,by rw[f.out.1,f.out.2];rfl,by rw[f.out.1];exact kq3 _ _ _ _⟩,c⟩
 unfold Ib at l;rw[d] at l;have o:=y5 (λA W (k:RdW W W.heap.size A [a])=>pV A [a] 1 1 W rfl (by omega) k (λx k=>by rw[kq2] at k;rw[k];exact j));rw[show aR 14695981039346656037 [a]=jt a from rfl] at o;have p:=y5 (Gs a b);rw[d] at p;obtain⟨q,k⟩:=xq (jt a);rw[k] at o p;clear d k j;by_cases r:q=b
 .have h:b8 a b=true:=by rw[p.out,r];simp
  have g:bB a b=cG a:=by unfold bB;rw[if_pos h]
  have i:ff a b=0:=by unfold ff;rw[if_pos h]
  have f:=y5 (And.intro g i);subst r;have x:((q:Int) != (q:Int))=false:=(by simp);clear h g i;go_enter func261,ntmps261;go_wp2_with fail;refine l.out.mono ?_;rintro e s ⟨⟨t,z,y,rfl,d⟩,c⟩;obtain⟨rfl,d⟩:=d trivial;have m:=c.size;obtain⟨j,u⟩:=yq0 c d;clear c d;go_wp2_with fail;have n:=Bx.new s 53 #[.int .u64 (a:Int)];refine (o.out _ _ (show Rd _ _ _ _ from Rd.of_bx n n.lt)).mono ?_;rintro e A ⟨rfl,d⟩;obtain⟨k,v⟩:=yq0 ((j.out.alloc m (.cells #[.int .u64 (a:Int)] 53)).trans (d.mono (by simp;omega))) (ag (u.out.alloc (.cells #[.int .u64 (a:Int)] 53)) d (kqa _));clear n d;go_wp2;go_ret2;exact⟨⟨t,y,by rw[f.out.1,f.out.2];rfl,by rw[f.out.1];exact v.out⟩,k.out⟩
 have h:b8 a b=false:=by rw[p.out,show (q==b)=false by rw[kqc];exact r];rfl
 have g:bB a b=[]:=by unfold bB;rw[h];rfl
 have i:ff a b=50:=by unfold ff;rw[h];rfl
 have f:=y5 (And.intro g i);have x:((b:Int) != (q:Int))=true:=(by rw[kqx];omega);have hnen:(b != q)=true:=(by rw[kqx];omega);clear h r g i;go_enter func261,ntmps261;go_wp2_with fail;refine l.out.mono ?_;rintro e s ⟨⟨t,z,y,rfl,-⟩,c⟩;have m:=c.size;have j:=y5 c;clear c;go_wp2_with fail;have n:=Bx.new s 53 #[.int .u64 (a:Int)];refine (o.out _ _ (show Rd _ _ _ _ from Rd.of_bx n n.lt)).mono ?_;rintro e A ⟨rfl,d⟩;have k:=y5 ((j.out.alloc m (.cells #[.int .u64 (a:Int)] 53)).trans (d.mono (by simp;omega)));clear n d;go_wp2;go_ret2;exact⟨⟨none,0,by rw[f.out.1,f.out.2];rfl,by rw[f.out.1];exact kq3 _ _ _ _⟩,k.out⟩
theorem Gq(A:Option Addr)(G:List Nat)(c n:Nat)(a:Int)(w:World)(d:G.length=n)(f:n<=9223372036854775807)(ha : -9223372036854775808<=a/\a<=9223372036854775807)(N:RdW w w.heap.size A G)(b:∀x∈G,x<2^64):
 Calls prog 145 #[.slice A n c,.int .i64 a] w λe g=>e=.returned (.tuple #[(iI G a).val,.int .i64 (bu G a)])/\Below w.heap.size w g:=by
 subst d;obtain⟨HR,HO⟩:=yq0 N b;obtain⟨a1,a2⟩:=ha;clear N b;have j:=Bx.new w 55 #[.int .i64 0,.int .i64 0,.int .i64 0,.int .i64 0,.bool false,.int .u64 0];cases b:am (G.length:Int)
 .have HI:=y5 (bQ b);obtain⟨o,p⟩:=uZ (f8 (a:=a) b) (by omega);obtain⟨R,S,BD⟩:=yq1 o p j;clear b o p j;go_enter func145,ntmps145;go_wp2_with fail
  go_step3
  go_wp2_with fail;refine (aJ A G.length c _ f).mono ?_;rintro e q ⟨rfl,rfl⟩;rw[HI.out];go_wp2_with fail;rw[Exit.noGoto_ret];refine kqq (v:=.tuple #[.agg #[.int .i64 0,.int .i64 0,.int .i64 0,.int .i64 0,.bool false,.int .u64 0],.int .i64 8]) (aX results145 _ BD.out rfl rfl) rfl ⟨by rw[R.out,S.out];rfl,(kqe _ _).alloc (kqa _) _⟩
 have HI:=y5 (aM b);have hb:=kB (aM b);obtain⟨m,L,d⟩:=hb;obtain⟨B,HS⟩:=yq0 d b;clear b d f;by_cases h:128<=a/\a<=(G.length:Int)/\a%2=0
 .obtain ⟨a3,a4,b⟩:=h;have hev:(a%2 != 0)=false:=by rw[kqt];exact b
  have d1:decide (a<128)=false:=(by rw[kqb];omega);have d2:decide ((G.length:Int)<a)=false:=(by rw[kqb];omega);have X:=y5 (ml A G c G.length a (w.alloc (.cells #[.int .i64 0,.int .i64 0,.int .i64 0,.int .i64 0,.bool false,.int .u64 0] 55)) rfl (by omega) ((HR.out.alloc (kqa _) _).more (by simp)) HO.out);rw[kqm] at X;have BD:=y5 j;clear b j;go_enter func145,ntmps145;go_wp2_with fail
  go_step3
  go_wp2_with fail;refine (aJ A G.length c _ (by omega)).mono ?_;rintro e q ⟨rfl,rfl⟩;rw[HI.out];go_wp2_with fail;refine X.out.mono ?_;rintro e q ⟨⟨A1,c1,rfl,b,f⟩,D⟩;have m:=az D;have O:=m.size;have P:=Bx.of_new D;have hz1':=P.lt;have HCL:=y5 f;obtain⟨l,g⟩:=xq (aS G a);have HL:=y5 g;rw[g] at b |-;have Eq:=y5 b;obtain⟨r,N⟩:=xq (cp G a);have I:=y5 N;rw[N];clear g b f;by_cases E:r=0
  .subst E;go_wp2_with fail
   go_step3
   go_wp2_with fail;obtain⟨U,V⟩:=yq0 P m;have hlen:l.length<=4611686018427387904:=by rw[<-HL.out];exact iP G a
   have bf:=Bx.new q 55 #[.int .i64 0,.int .i64 0,.int .i64 0,.int .i64 0,.bool false,.int .u64 0];clear N P m D;go_loopg [8,44] l.length (λg b i wr=>∃k:Nat,k+g=l.length/\i=.int .i64 k/\b=.int .i64 6/\Hid (fv l k)/\Bx wr q.heap.size 55 #[.int .i64 0,.int .i64 0,.int .i64 0,.int .i64 0,.bool false,.int .u64 0]/\Below q.heap.size q wr)
   case atStart=>exact⟨0,by omega,rfl,rfl,nT l,bf,(kqe _ _).alloc (kqa _) _⟩
   obtain⟨k,hk,rfl,rfl,J,bx,K⟩:=hrel;have hz:=K.size;by_cases M:k<l.length
   .obtain ⟨b,off,rfl,hbw,q0,q1,q2,q3,q4,q5⟩:=RdB.at_ (Eq.out.below K) M;have C:=y5 (bG l k M);obtain⟨x,g⟩:=xq (l[k]);rw[g] at q0 q1 q2 q3 q4 q5 C;obtain⟨s,y,t,z,xm,u⟩:=x;dsimp only at q0 q1 q2 q3 q4 q5;have BX:=y5 bx;obtain⟨c0,Y,c2,c3,c4,c5,f,cz⟩:=bx.c6;have Z:=f 0;have cf1:=f 1;have cf2:=f 2;have cf3:=f 3;have cf4:=f 4;have cf5:=f 5;have hlm:(k:Int)<(l.length:Int):=(by omega);clear g bx f;cases xm
    .go_wp2;go_roundg (gk-1)
     case rel=>exact⟨k+1,by omega,by go_num,rfl,nX J.out (by rw[C.out]),BX.out.alloc _,K.alloc hz _⟩
     case measure=>omega
    have hd:=U.out.up K (by omega);have i:=Bx.new wr 55 #[.int .i64 s,.int .i64 y,.int .i64 t,.int .i64 z,.bool true,.int .u64 (u:Int)];obtain⟨W,HD,Q,F⟩:=yq2 (K.alloc hz (.cells #[.int .i64 s,.int .i64 y,.int .i64 t,.int .i64 z,.bool true,.int .u64 (u:Int)] 55)) (hd.alloc (.cells #[.int .i64 s,.int .i64 y,.int .i64 t,.int .i64 z,.bool true,.int .u64 (u:Int)] 55)) (BX.out.alloc (.cells #[.int .i64 s,.int .i64 y,.int .i64 t,.int .i64 z,.bool true,.int .u64 (u:Int)] 55)) i;have g:=mM;clear hd i;clear c0 Y c2 c3 c4 c5 Z cf1 cf2 cf3 cf4 cf5;go_upto_region 15 with (fail);obtain⟨wn,i⟩:∃wn,wr.alloc (.cells #[.int .i64 s,.int .i64 y,.int .i64 t,.int .i64 z,.bool true,.int .u64 (u:Int)] 55)=wn:=⟨_,rfl⟩;rw[i] at HD Q W F |-;clear i;go_wp2_with (first
     | ((with_reducible refine av 55 (.tmp 11) ?_);refine kz7 rfl _ _ rfl wr.heap.size (by rfl) 55 #[.int .i64 s,.int .i64 y,.int .i64 t,.int .i64 z,.bool true,.int .u64 (u:Int)] (0,0) _ F.out underlying55 (by rfl) g ?_)
     | ((with_reducible refine aj 55 (.tmp 9) _ ?_);refine ai rfl _ _ _ rfl q.heap.size 55 #[.int .i64 0,.int .i64 0,.int .i64 0,.int .i64 0,.bool false,.int .u64 0] #[.int .i64 s,.int .i64 y,.int .i64 t,.int .i64 z,.bool true,.int .u64 (u:Int)] (by rfl) (by rfl) Q.out rfl g (nO _ _ _ _ _ _) ?_;intro w2 L i;have H:=y5 L;have T:=y5 i;clear L i)
     | ((with_reducible refine av 55 (.tmp 9) ?_);refine kz7 rfl _ _ rfl q.heap.size (by rfl) 55 #[.int .i64 s,.int .i64 y,.int .i64 t,.int .i64 z,.bool true,.int .u64 (u:Int)] (0,0) _ H.out underlying55 (by rfl) g ?_)
     | ((with_reducible refine aj 55 (.tmp 4) _ ?_);refine ai rfl _ _ _ rfl w.heap.size 55 #[.int .i64 0,.int .i64 0,.int .i64 0,.int .i64 0,.bool false,.int .u64 0] #[.int .i64 s,.int .i64 y,.int .i64 t,.int .i64 z,.bool true,.int .u64 (u:Int)] (by rfl) (by rfl) (T.out.bx HD.out (by omega)) rfl g (nO _ _ _ _ _ _) ?_;intro w3 d i;have B:=y5 d;have H:=y5 i;clear d i))
    rw[Exit.noGoto_ret];obtain⟨o,p⟩:=qn I.out HL.out M J.out (by rw[C.out]);exact kqq (v:=.tuple #[.agg #[.int .i64 s,.int .i64 y,.int .i64 t,.int .i64 z,.bool true,.int .u64 (u:Int)],.int .i64 0]) (aX results145 _ B.out rfl rfl) rfl ⟨by rw[o,p,C.out];rfl,H.out.below (T.out.below (V.out.trans (W.out.mono O)) O) (kqa _)⟩
   have b:k=l.length:=(by omega);have hd:=U.out.up K (by omega);obtain⟨HD,BX⟩:=yq0 hd bx;have g:=mM;have s:=y5 (Ap I.out HL.out (by rw[<-b];exact J.out));clear hd bx b;go_wp2_with (first
    | ((with_reducible refine av 55 (.tmp 9) ?_);refine kz7 rfl _ _ rfl q.heap.size (by rfl) 55 #[.int .i64 0,.int .i64 0,.int .i64 0,.int .i64 0,.bool false,.int .u64 0] (0,0) _ BX.out underlying55 (by rfl) g ?_)
    | ((with_reducible refine aj 55 (.tmp 4) _ ?_);refine ai rfl _ _ _ rfl w.heap.size 55 #[.int .i64 0,.int .i64 0,.int .i64 0,.int .i64 0,.bool false,.int .u64 0] #[.int .i64 0,.int .i64 0,.int .i64 0,.int .i64 0,.bool false,.int .u64 0] (by rfl) (by rfl) HD.out rfl g (nO _ _ _ _ _ _) ?_;intro w3 d i;have B:=y5 d;have H:=y5 i;clear d i))
   rw[Exit.noGoto_ret];exact kqq (v:=.tuple #[.agg #[.int .i64 0,.int .i64 0,.int .i64 0,.int .i64 0,.bool false,.int .u64 0],.int .i64 6]) (aX results145 _ B.out rfl rfl) rfl ⟨by rw[s.out.1,s.out.2];rfl,H.out.below (V.out.trans (K.mono O)) (kqa _)⟩
  have hn1:(r != 0)=true:=by rw[kqx];exact E
  obtain⟨o,p⟩:=uZ I.out E;obtain⟨R,S⟩:=yq0 o p;obtain⟨c0,Y,c2,c3,c4,c5,f,cz⟩:=P.c6;have Z:=f 0;have cf1:=f 1;have cf2:=f 2;have cf3:=f 3;have cf4:=f 4;have cf5:=f 5;have b:=y5 P;clear N E o p f P D;go_wp2_with fail;rw[Exit.noGoto_ret];refine kqq (v:=.tuple #[.agg #[.int .i64 0,.int .i64 0,.int .i64 0,.int .i64 0,.bool false,.int .u64 0],.int .i64 r]) (aX results145 _ (l8 b.out _ _ _ _ _ _) rfl rfl) rfl ⟨by rw[R.out,S.out];rfl,fS m (kqa _) _ _ _ _ _ _⟩
 have i:=y5 (jy HS.out (nL h));obtain⟨o,p⟩:=uZ i.out (by omega);obtain⟨R,S,BD⟩:=yq1 o p j;clear o p j;have b:=Eh h;clear h;rcases b with⟨f,g⟩|⟨⟨f,g⟩,h⟩|⟨f,g,h⟩
 all_goals
  go_enter func145,ntmps145;go_wp2_with fail
  go_step3
  go_wp2_with fail;refine (aJ A G.length c _ (by omega)).mono ?_;rintro e q ⟨rfl,rfl⟩;rw[HI.out];go_wp2_with fail;rw[Exit.noGoto_ret];refine kqq (v:=.tuple #[.agg #[.int .i64 0,.int .i64 0,.int .i64 0,.int .i64 0,.bool false,.int .u64 0],.int .i64 2]) (aX results145 _ BD.out rfl rfl) rfl ⟨by rw[R.out,S.out];rfl,(kqe _ _).alloc (kqa _) _⟩
end Go.Proofs.YtpcajamacpbjcaaGreat
