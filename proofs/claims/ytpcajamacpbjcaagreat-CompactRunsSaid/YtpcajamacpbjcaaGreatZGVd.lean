import Derived.Test.YtpcajamacpbjcaaGreatZGVa
import Derived.Test.YtpcajamacpbjcaaGreatZGG
set_option maxHeartbeats 16000000
set_option maxRecDepth 100000
set_option linter.all false
namespace Go.Proofs.YtpcajamacpbjcaaGreat
open Go.RowKit
variable {a:Int}{l:List Bk}{o:List En}{G:List Nat}{k t:Nat}
open Go.Proofs.Tryz
theorem l6(n:Nat)(w:World)(h:lG n=true):Calls prog 281 #[.int .i64 (n:Int)] w λe a=>e=.returned (.bool true)/\w=a:=by
 obtain⟨a,b,c⟩:=(a9 n).1 h;have d1:decide ((128:Int)<=(n:Int))=true:=(by rw[kqh];omega);have d2:decide ((n:Int)<=2048)=true:=(by rw[kqh];omega);have d1n:decide (128<=n)=true:=(by rw[kqh];omega);have d2n:decide (n<=2048)=true:=(by rw[kqh];omega);have e1:Int.tmod (n:Int) 2=0:=by rw[kkp (by omega)];omega
 clear h a b c;go_enter func281,ntmps281;go_wp2;go_ret;exact⟨rfl,rfl⟩
theorem Da(p f t:Nat)(w:World)(h:zh p f t=true):Calls prog 248 #[phV p f t] w λe a=>e=.returned (.bool true)/\Below w.heap.size w a:=by
 unfold phV;have b:=y5 ((kqe w.heap.size w).alloc (kqa _) (.cells #[.int .i64 (p:Int),.int .i64 (f:Int),.int .i64 (t:Int)] 107));rcases (cy p f t).1 h with⟨rfl,a,g,j⟩|⟨rfl,rfl,a⟩|⟨a,rfl,rfl⟩
 .obtain⟨c,d⟩:=yq0 (λW=>l6 f W a) (λW=>l6 t W g);have d1:decide ((t:Int)<=(f:Int))=true:=(by rw[kqh];omega);have d1n:decide (t<=f)=true:=(by rw[kqh];omega);clear h a g j;(try simp only[kq1] at b |-);go_enter func248,ntmps248;go_wp2_with fail;refine (c.out _).mono ?_;rintro e i ⟨rfl,rfl⟩;go_wp2_with fail;refine (d.out _).mono ?_;rintro e i ⟨rfl,rfl⟩;go_wp2;go_ret;exact⟨rfl,b.out⟩
 .by_cases d:f=0
  .subst d;clear h a;(try simp only[kq1] at b |-);go_enter func248,ntmps248;go_wp2;go_ret;exact⟨rfl,b.out⟩
  have ef:((f:Int)==0)=false:=(by rw[kqc];omega);have efn:(f==0)=false:=(by rw[kqc];omega);have c:=y5 (λW=>l6 f W (by rcases a with a|a;exact absurd a d;exact a));clear h a d;(try simp only[kq1] at b |-);go_enter func248,ntmps248;go_wp2_with fail;refine (c.out _).mono ?_;rintro e i ⟨rfl,rfl⟩;go_wp2;go_ret;exact⟨rfl,b.out⟩
 clear h;obtain rfl|rfl|rfl:p=0\/p=1\/p=2:=by omega
 all_goals
  clear a;(try simp only[kq1] at b |-);go_enter func248,ntmps248;go_wp2;go_ret;exact⟨rfl,b.out⟩
theorem gm:(prog.info? 107).map (·.size)=some 3:=by kernel_rfl
theorem Ig(h:cK G=0)(h1:16<=k)(h2:k<24):wd G k<=2048/\(18<k->wd G k=0):=by
 obtain⟨a,b,-⟩:=cR h;obtain⟨⟨a0,a1,a2⟩,a3,a4,a5,a6,a7⟩:=(bo G).1 b;have hb:=dA G a;obtain rfl|rfl|rfl|rfl|rfl|rfl|rfl|rfl:k=16\/k=17\/k=18\/k=19\/k=20\/k=21\/k=22\/k=23:=by omega
 all_goals exact⟨by omega,by omega⟩
theorem Es(A:Option Addr)(G:List Nat)(c n:Nat)(w:World)(o:G.length=n)(h:cK G=0)(q:RdW w w.heap.size A G):
 Calls prog 196 #[.slice A n c] w λe a=>e=.returned (.tuple #[phV (wd G 16) (wd G 17) (wd G 18),.bool true])/\Below w.heap.size w a:=by
 obtain⟨a,d,m⟩:=cR h;obtain⟨⟨Y,Z,a2⟩,-⟩:=(bo G).1 d;have hb:=dA G a;rw[o] at hb Y Z a2;obtain⟨P,Q,l⟩:=yq1 (λk (a:16<=k) (d:k<24)=>Ig h a d) (λW=>Da (wd G 16) (wd G 17) (wd G 18) W m) (show RdW (w.alloc (.cells #[.int .i64 0,.int .i64 0,.int .i64 0] 107)) (w.alloc (.cells #[.int .i64 0,.int .i64 0,.int .i64 0] 107)).heap.size A G from (q.alloc (kqa _) _).more (by simp));have s:Hid (∀W r,r<n->RdW W W.heap.size A G->∃b u,A=some ⟨b,u,none⟩/\b<W.heap.size/\W.cell? ⟨b,u+r,none⟩=some (.int .u64 (wd G r:Int))):=y5 λW r hr2 h=>by
  obtain⟨b,u,e,f,g⟩:=RdW.at_ h (show r<G.length by omega);rw[<-bY] at g;exact⟨b,u,e,f,g⟩
 obtain⟨H,B⟩:=yq0 (Bx.new w 107 #[.int .i64 0,.int .i64 0,.int .i64 0]) ((kqe w.heap.size w).alloc (kqa _) (.cells #[.int .i64 0,.int .i64 0,.int .i64 0] 107));obtain⟨p,i⟩:=xq (wd G 16);obtain⟨f,g⟩:=xq (wd G 17);obtain⟨t,j⟩:=xq (wd G 18);rw[i,g,j] at Q |-;rw[i] at Y;rw[g] at Z;rw[j] at a2;have D:=y5 (And.intro i (And.intro g j));unfold phV at Q |-;clear q h a d m o i g j;go_enter func196,ntmps196;go_wp2_with fail;obtain⟨R,a⟩:=xq (w.alloc (.cells #[.int .i64 0,.int .i64 0,.int .i64 0] 107));rw[a] at l H B |-;clear a;go_loopw [4] (λa wr=>∃k:Nat,16<=k/\k<=24/\a=.int .i64 k/\wr=R) (λi _=>24-(intOf i).toNat)
 case atStart=>exact⟨16,kqa _,by omega,rfl,rfl⟩
 obtain⟨k,V,hk2,rfl,rfl⟩:=hrel;by_cases N:k<24
 .obtain ⟨r,a⟩:=P.out k V N;obtain⟨d,g,rfl,h,i⟩:=s.out wr k (by omega) l.out;obtain⟨v,q⟩:=xq (wd G k);rw[q] at r a i;have hk0:(0:Int)<=(k:Int):=(by omega);have o:(k:Int)<(n:Int):=(by omega);have hki:(k:Int)<24:=(by omega);have d1:decide ((2048:Int)<(v:Int))=false:=(by rw[kqb];omega);have d1n:decide (2048<v)=false:=(by rw[kqb];omega);by_cases m:18<k
  .obtain rfl:=a m;have x:decide ((18:Int)<(k:Int))=true:=(by rw[kqh];omega);have j:decide (18<k)=true:=(by rw[kqh];omega);clear q r a;go_wp2;go_roundw;exact⟨k+1,by omega,by omega,by go_num,trivial⟩;simp[intOf];omega
  have x:decide ((18:Int)<(k:Int))=false:=(by rw[kqb];omega);have j:decide (18<k)=false:=(by rw[kqb];omega);clear q r a;go_wp2;go_roundw;exact⟨k+1,by omega,by omega,by go_num,trivial⟩;simp[intOf];omega
 have a:k=24:=(by omega);obtain⟨d,g,rfl,h,i⟩:=s.out wr 16 (by omega) l.out;obtain⟨bA1,oA1,e1,-,v1⟩:=s.out wr 17 (by omega) l.out;obtain⟨bA2,oA2,e2,-,v2⟩:=s.out wr 18 (by omega) l.out;cases e1;cases e2;rw[D.out.1] at i;rw[D.out.2.1] at v1;rw[D.out.2.2] at v2;have w1:IntKind.i64.wrap (p:Int)=(p:Int):=kqo _ (by omega);have w2:IntKind.i64.wrap (f:Int)=(f:Int):=kqo _ (by omega);have w3:IntKind.i64.wrap (t:Int)=(t:Int):=kqo _ (by omega);have hkd:decide ((k:Int)<24)=false:=(by rw[kqb];omega);have o:decide (k<24)=false:=by rw[kqb];exact N
 have n16:(16:Int)<(n:Int):=(by omega);have n17:(17:Int)<(n:Int):=(by omega);have n18:(18:Int)<(n:Int):=(by omega);have d3:decide ((f:Int)<=(n:Int))=true:=(by rw[kqh];omega);have d3n:decide (f<=n)=true:=(by rw[kqh];omega);clear a;have q:=y5 (And.intro i (And.intro v1 v2));clear i v1 v2;go_wp2_with fail;have o:=y5 ((kqe wr.heap.size wr).drew);have O:=y5 (H.out.up o.out H.out.lt);obtain⟨W,j⟩:=xq wr.drew;refine kz4 (S:=λX:World=>X.cell? ⟨d,g+16,none⟩=some (.int .u64 (p:Int))/\X.cell? ⟨d,g+17,none⟩=some (.int .u64 (f:Int))/\X.cell? ⟨d,g+18,none⟩=some (.int .u64 (t:Int))) (by kernel_rfl) q.out (λa=>?_);rw[j] at o O a |-;have F:=o.out.size;have E:d<W.heap.size:=(by omega);clear j;show wpAnyH _ _ _ _ _ 15 _ _ _;refine tj 0 (.slice (some ⟨d,g,none⟩) n c) ?_;refine tj 1 (.pointer (some ⟨d,g+16,none⟩)) ?_;refine tj 2 (.int .u64 (p:Int)) ?_;refine tj 3 (.int .i64 (p:Int)) ?_;refine tj 4 (.slice (some ⟨d,g,none⟩) n c) ?_;refine tj 5 (.pointer (some ⟨d,g+17,none⟩)) ?_;refine tj 6 (.int .u64 (f:Int)) ?_;refine tj 7 (.int .i64 (f:Int)) ?_;refine tj 8 (.slice (some ⟨d,g,none⟩) n c) ?_;refine tj 9 (.pointer (some ⟨d,g+18,none⟩)) ?_;refine tj 10 (.int .u64 (t:Int)) ?_;refine tj 11 (.int .i64 (t:Int)) ?_;refine tj 12 (.agg #[.int .i64 (p:Int),.int .i64 (f:Int),.int .i64 (t:Int)]) ?_
 dsimp only[Act.put,kqr,kqn,kql,kqd,kqk,kqj];refine kzr (rs:=[13]) (by kernel_rfl) (by simp) ?_;refine AllReadyH.cons rfl (λK m=>?_) AllReadyH.nil;go_simp;refine m.out _ _ ⟨(kzc W _ ⟨d,g+16,none⟩ E).trans a.1,(kzc W _ ⟨d,g+17,none⟩ E).trans a.2.1,(kzc W _ ⟨d,g+18,none⟩ E).trans a.2.2⟩ (λy=>?_);clear m K;refine kzr (rs:=[14]) (by kernel_rfl) (by simp) ?_;refine AllReadyH.cons rfl (λK m=>?_) AllReadyH.nil;refine fm 107 (.tmp 5) (.tmp 39) rfl W.heap.size 107 #[.int .i64 0,.int .i64 0,.int .i64 0] #[.int .i64 (p:Int),.int .i64 (f:Int),.int .i64 (t:Int)] (by rfl) (by rfl) (Bx.new W 107 #[.int .i64 0,.int .i64 0,.int .i64 0]) rfl gm (by simp[Value.oneCell']) ?_;intro T r i;have j:=y5 (i.below (o.out.alloc F (.cells #[.int .i64 0,.int .i64 0,.int .i64 0] 107)) F);have C:=(j.out.cell (p:=⟨d,g+16,none⟩) h).trans q.out.1;have I:=(j.out.cell (p:=⟨d,g+17,none⟩) h).trans q.out.2.1;have L:=(j.out.cell (p:=⟨d,g+18,none⟩) h).trans q.out.2.2;refine m.out _ _ ⟨C,I,L⟩ (λz=>?_);obtain⟨x,J⟩:=yq0 r (H.out.up j.out H.out.lt);have hgW:w.heap.size<W.heap.size:=kxm H.out.lt F
 clear m K y z a r i C I L;refine kx0 (by kernel_rfl) ?_ _;go_wp2_with fail;have h:=y5 ((kqe T.heap.size T).drew);obtain⟨y,z,C⟩:=yq1 (x.out.up h.out x.out.lt) (J.out.up h.out J.out.lt) (j.out.trans (h.out.mono j.out.size));obtain⟨U,i⟩:=xq T.drew;refine kz4 (S:=λX:World=>Bx X W.heap.size 107 #[.int .i64 (p:Int),.int .i64 (f:Int),.int .i64 (t:Int)]) (by kernel_rfl) x.out (λa=>?_);rw[i] at h y z C a |-;clear i;show wpAnyH _ _ _ _ _ 12 _ _ _;refine tk 0 (.agg #[.int .i64 (p:Int),.int .i64 (f:Int),.int .i64 (t:Int)]) ?_ ?_
 .intro X M;exact eI 107 (.tmp 5) rfl W.heap.size (by rfl) 107 _ _ M underlying107 (by rfl) gm
 dsimp only[Act.put,kqr,kqn,kql,kqd,kqk,kqj];refine tk 1 (.agg #[.int .i64 (p:Int),.int .i64 (f:Int),.int .i64 (t:Int)]) ?_ ?_
 .intro X M;exact eI 107 (.tmp 5) rfl W.heap.size (by rfl) 107 _ _ M underlying107 (by rfl) gm
 dsimp only[Act.put,kqr,kqn,kql,kqd,kqk,kqj];refine kzr (rs:=[2]) (by kernel_rfl) (by simp) ?_;refine AllReadyH.cons rfl (λK m=>?_) AllReadyH.nil;go_simp;refine (Q.out U).mono ?_;rintro e w10 ⟨rfl,i⟩;go_simp;obtain⟨r,I⟩:=yq0 (y.out.up i y.out.lt) (z.out.up i z.out.lt);have L:=yq7 C i;refine m.out _ _ r.out (λhT=>?_);clear m K i a;refine tj 3 (.bool true) ?_;refine tj 4 (.pointer (some ⟨W.heap.size,1,none⟩)) ?_;dsimp only[Act.put,kqr,kqn,kql,kqd,kqk,kqj];refine tk 5 (.int .i64 (f:Int)) ?_ ?_
 .intro X M;have e1:X.cell? ⟨W.heap.size,1,none⟩=some (.int .i64 (f:Int)):=M.cell 1;go_simp
 dsimp only[Act.put,kqr,kqn,kql,kqd,kqk,kqj];refine tj 6 (.slice (some ⟨d,g,none⟩) n c) ?_;refine tj 7 (.int .i64 (n:Int)) ?_;refine tj 8 (.bool true) ?_;refine tj 9 (.bool true) ?_;dsimp only[Act.put,kqr,kqn,kql,kqd,kqk,kqj];simp only[kqd,kqk,kqj];refine kzr (rs:=[10]) (by kernel_rfl) (by simp) ?_;refine AllReadyH.cons rfl (λK m=>?_) AllReadyH.nil;refine fm 107 (.tmp 2) (.tmp 40) rfl w.heap.size 107 #[.int .i64 0,.int .i64 0,.int .i64 0] #[.int .i64 (p:Int),.int .i64 (f:Int),.int .i64 (t:Int)] (by rfl) (by rfl) I.out rfl gm (by simp[Value.oneCell']) ?_;intro W11 d a;obtain⟨e,g⟩:=yq0 d (a.below (B.out.trans (L.out.mono B.out.size)) (kqa _));refine m.out _ _ (a.bx r.out (by omega)) (λhT2=>?_);clear m K hT d a;refine tj 11 (.bool true) ?_;dsimp only[Act.put,kqr,kqn,kql,kqd,kqk,kqj];refine kx0 (by kernel_rfl) ?_ _;go_wp2_with fail;exact kqq (v:=.tuple #[.agg #[.int .i64 (p:Int),.int .i64 (f:Int),.int .i64 (t:Int)],.bool true]) (aY results196 _ e.out rfl rfl) rfl ⟨rfl,g.out⟩
theorem sx(A:Option Addr)(G:List Nat)(c n f:Nat)(w:World)(a:G.length=n)(F:am (G.length:Int)=true)(h:mU G f=true)(E:RdW w w.heap.size A G)(D:∀x∈G,x<2^64):
 Calls prog 197 #[.slice A n c,.int .i64 (f:Int)] w λe b=>e=.returned (.bool true)/\Below w.heap.size w b:=by
 subst a;have hb:=dA G F;unfold mU at h;have p:=y5 (mJ A G c G.length 128 w rfl (by omega) (by omega) (by omega) (by omega) E D);unfold tP nB at p;cases t:blocks G 128 with
 | none=>rw[t] at h;cases h
 | some l =>
  rw[t] at h p;simp only[kq9,kxv] at p;dsimp only at h;have I:=y5 (λ(a:∀j (g:j<l.length),l[j].at_≠(f:Int))=>show f=G.length by
   rw[kxw] at h;rcases h with h|h
   .obtain ⟨x,o,b⟩:=kx1.1 h;obtain⟨j,g,rfl⟩:=kqy o;exact absurd (by simpa using b) (a j g)
   simpa using h)
  have a:=(bv (by omega) 128 l t (by omega) (by omega) (by omega)).1;obtain⟨m,b⟩:=xq l.length;have hml:m<=1024:=(by omega);rw[b] at p;have B:=y5 b;clear E D h t F b a;go_enter func197,ntmps197;go_wp2_with fail;refine p.out.mono ?_;rintro e H ⟨⟨A1,c1,rfl,b,-⟩,a⟩;obtain⟨v,d⟩:=yq0 b a;clear b a;go_wp2_with fail;go_loopw [7] (λi wr=>∃k:Nat,k<=m/\i=.int .i64 k/\Hid (∀j (g:j<l.length),j<k->l[j].at_≠(f:Int))/\Below H.heap.size H wr) (λi _=>m-(intOf i).toNat)
  case atStart=>exact⟨0,kqv _,rfl,y5 (λj _ h=>absurd h (by omega)),kqe _ _⟩
  obtain⟨k,hk,rfl,q,i⟩:=hrel;have hz:=i.size;by_cases r:k<m
  .have z:k<l.length:=by rw[B.out];exact r
   obtain⟨b,off,rfl,hbw,J,-⟩:=RdB.at_ (Rd.below v.out i) z;obtain⟨x,o⟩:=xq (l[k].at_);rw[o] at J;have hlm:(k:Int)<(m:Int):=(by omega);have hk0:(0:Int)<=(k:Int):=(by omega);have s:=y5 i;clear i;by_cases a:x=(f:Int)
   .have C:(x==(f:Int))=true:=by rw[kqw];exact a
    clear a o;go_wp2;go_ret;exact⟨rfl,d.out.trans (s.out.mono d.out.size)⟩
   have C:(x==(f:Int))=false:=by rw[kqc];exact a
   have u:Hid (∀j (g:j<l.length),j<k+1->l[j].at_≠(f:Int)):=y5 λj g hjk=>by
    by_cases y:j=k
    .subst y;rw[o];exact a
    exact q.out j g (by omega)
   clear a o;go_wp2;go_roundw;exact⟨k+1,by omega,by go_num,u,s.out⟩;simp[intOf];omega
  have a:k=m:=(by omega);have b:=I.out (λj g=>q.out j g (by have:=B.out;omega));have C:((f:Int)==(G.length:Int))=true:=(by rw[kqw];omega);have e2:(f==G.length)=true:=by rw[kqw];exact b
  have hkd:decide ((k:Int)<(m:Int))=false:=(by rw[kqb];omega);have hkn:decide (k<m)=false:=by rw[kqb];exact r
  have s:=y5 i;clear a b i;go_wp2;go_ret;exact⟨rfl,d.out.trans (s.out.mono d.out.size)⟩
theorem kJ(A:Option Addr)(G:List Nat)(c n:Nat)(w:World)(i:G.length=n)(h:cJ G=0)(a:RdW w w.heap.size A G)(k:∀x∈G,x<2^64):
 Calls prog 133 #[.slice A n c] w λe b=>e=.returned (.tuple #[phV (wd G 16) (wd G 17) (wd G 18),.bool true])/\Below w.heap.size w b:=by
 obtain⟨g,j⟩:=dN h;obtain⟨l,-,-⟩:=cR g;have s:=y5 (Es A G c n (w.alloc (.cells #[.int .i64 0,.int .i64 0,.int .i64 0] 107)) i g ((a.alloc (kqa _) _).more (by simp)));rw[kqm] at s;have o:=y5 (λW (d:wd G 16=3) (b:wd G 17≠0) (a:RdW W W.heap.size A G)=>sx A G c n (wd G 17) W i l (j d b) a k);obtain⟨p,d⟩:=xq (wd G 16);obtain⟨f,b⟩:=xq (wd G 17);obtain⟨t,m⟩:=xq (wd G 18);rw[d,b,m] at s |-;rw[d,b] at o;unfold phV at s |-;have F:=y5 a;clear a k h g j l i d b m;by_cases z:p=3/\f≠0
 .obtain ⟨d,b⟩:=z;have C:=y5 (λW (a:RdW W W.heap.size A G)=>o.out W d b a);have d1:decide ((0:Int)<(f:Int))=true:=(by rw[kqh];omega);have d1n:decide (0<f)=true:=(by rw[kqh];omega);subst d;clear b o;go_enter func133,ntmps133;go_wp2_with fail;refine s.out.mono ?_;rintro e r ⟨rfl,i⟩;have j:=az i;have q:=j.size;obtain⟨u,g,h⟩:=yq1 (Bx.of_new i) (Bx.new r 107 #[.int .i64 3,.int .i64 (f:Int),.int .i64 (t:Int)]) (j.alloc q (.cells #[.int .i64 3,.int .i64 (f:Int),.int .i64 (t:Int)] 107));obtain⟨k,D⟩:=yq0 (u.out.alloc (.cells #[.int .i64 3,.int .i64 (f:Int),.int .i64 (t:Int)] 107)) (yq8 F h);clear i j u;go_wp2_with fail;refine (C.out _ D.out).mono ?_;rintro e w3 ⟨rfl,a⟩;obtain⟨y,d⟩:=yq0 (k.out.up a k.out.lt) (g.out.up a g.out.lt);have B:=yq7 h a;clear a;go_wp2_with (first
   | ((with_reducible refine av 107 (.tmp 4) ?_);refine kz7 rfl _ _ rfl r.heap.size (by rfl) 107 #[.int .i64 3,.int .i64 (f:Int),.int .i64 (t:Int)] (0,0) _ d.out underlying107 (by rfl) gm ?_)
   | ((with_reducible refine aj 107 (.tmp 2) _ ?_);refine ai rfl _ _ _ rfl w.heap.size 107 #[.int .i64 0,.int .i64 0,.int .i64 0] #[.int .i64 3,.int .i64 (f:Int),.int .i64 (t:Int)] (by rfl) (by rfl) y.out rfl gm (by simp[Value.oneCell']) ?_;intro E b a;have m:=y5 b;have l:=y5 a;clear b a))
  exact kqq (v:=.tuple #[.agg #[.int .i64 3,.int .i64 (f:Int),.int .i64 (t:Int)],.bool true]) (aY results133 _ m.out rfl rfl) rfl ⟨rfl,l.out.below B.out (kqa _)⟩
 obtain⟨d,D⟩:∃d,((p:Int)==3)=d:=⟨_,rfl⟩;obtain⟨B,y⟩:∃d,decide ((0:Int)<(f:Int))=d:=⟨_,rfl⟩;have C:(d&&B)=false:=by rw[<-D,<-y,kj6,kqc,kqb];omega
 have hdn:(p==3)=d:=by rw[<-D,kzk,kqw,kqw];omega
 have hdn2:decide (0<f)=B:=by rw[<-y,decide_eq_decide];omega
 clear o z;go_enter func133,ntmps133;go_wp2_with fail;refine s.out.mono ?_;rintro e r ⟨rfl,i⟩;have j:=az i;have q:=j.size;obtain⟨u,g,h⟩:=yq1 (Bx.of_new i) (Bx.new r 107 #[.int .i64 (p:Int),.int .i64 (f:Int),.int .i64 (t:Int)]) (j.alloc q (.cells #[.int .i64 (p:Int),.int .i64 (f:Int),.int .i64 (t:Int)] 107));have k:=y5 (u.out.alloc (.cells #[.int .i64 (p:Int),.int .i64 (f:Int),.int .i64 (t:Int)] 107));clear i j u;cases d
 .go_wp2_with (first
   | ((with_reducible refine av 107 (.tmp 4) ?_);refine kz7 rfl _ _ rfl r.heap.size (by rfl) 107 #[.int .i64 (p:Int),.int .i64 (f:Int),.int .i64 (t:Int)] (0,0) _ g.out underlying107 (by rfl) gm ?_)
   | ((with_reducible refine aj 107 (.tmp 2) _ ?_);refine ai rfl _ _ _ rfl w.heap.size 107 #[.int .i64 0,.int .i64 0,.int .i64 0] #[.int .i64 (p:Int),.int .i64 (f:Int),.int .i64 (t:Int)] (by rfl) (by rfl) k.out rfl gm (by simp[Value.oneCell']) ?_;intro E b a;have m:=y5 b;have l:=y5 a;clear b a))
  exact kqq (v:=.tuple #[.agg #[.int .i64 (p:Int),.int .i64 (f:Int),.int .i64 (t:Int)],.bool true]) (aY results133 _ m.out rfl rfl) rfl ⟨rfl,l.out.below h.out (kqa _)⟩
 obtain rfl:B=false:=by simpa using C
 go_wp2_with (first
  | ((with_reducible refine av 107 (.tmp 4) ?_);refine kz7 rfl _ _ rfl r.heap.size (by rfl) 107 #[.int .i64 (p:Int),.int .i64 (f:Int),.int .i64 (t:Int)] (0,0) _ g.out underlying107 (by rfl) gm ?_)
  | ((with_reducible refine aj 107 (.tmp 2) _ ?_);refine ai rfl _ _ _ rfl w.heap.size 107 #[.int .i64 0,.int .i64 0,.int .i64 0] #[.int .i64 (p:Int),.int .i64 (f:Int),.int .i64 (t:Int)] (by rfl) (by rfl) k.out rfl gm (by simp[Value.oneCell']) ?_;intro E b a;have m:=y5 b;have l:=y5 a;clear b a))
 exact kqq (v:=.tuple #[.agg #[.int .i64 (p:Int),.int .i64 (f:Int),.int .i64 (t:Int)],.bool true]) (aY results133 _ m.out rfl rfl) rfl ⟨rfl,l.out.below h.out (kqa _)⟩
theorem FX(A:Option Addr)(G:List Nat)(c n:Nat)(w:World)(a:G.length=n)(h:cJ G=0)(l:RdW w w.heap.size A G)(j:∀x∈G,x<2^64):
 Calls prog 237 #[.slice A n c] w λe b=>e=.returned (.tuple #[phV (wd G 16) (wd G 17) (wd G 18),.int .i64 0])/\Below w.heap.size w b:=by
 obtain⟨d,-⟩:=dN h;obtain⟨b,-,-⟩:=cR d;have q:=dA G b;have o:=y5 (λW=>fu A n c W (by omega));rw[aM (by rw[<-a];exact b)] at o;have g:=y5 (kJ A G c n (w.alloc (.cells #[.int .i64 0,.int .i64 0,.int .i64 0] 107)) a h ((l.alloc (kqa _) _).more (by simp)) j);rw[kqm] at g;obtain⟨p,k⟩:=xq (wd G 16);obtain⟨f,i⟩:=xq (wd G 17);obtain⟨t,m⟩:=xq (wd G 18);rw[k,i,m] at g |-;unfold phV at g |-;clear l j h d b a k i m q;go_enter func237,ntmps237;go_wp2_with fail;refine (o.out _).mono ?_;rintro e m ⟨rfl,rfl⟩;go_wp2_with fail;refine g.out.mono ?_;rintro e m ⟨rfl,a⟩;have b:=az a;have l:=b.size;obtain⟨i,d,k⟩:=yq1 (Bx.of_new a) (Bx.new m 107 #[.int .i64 (p:Int),.int .i64 (f:Int),.int .i64 (t:Int)]) (b.alloc l (.cells #[.int .i64 (p:Int),.int .i64 (f:Int),.int .i64 (t:Int)] 107));have h:=y5 (i.out.alloc (.cells #[.int .i64 (p:Int),.int .i64 (f:Int),.int .i64 (t:Int)] 107));clear a b i;go_wp2_with (first
  | ((with_reducible refine av 107 (.tmp 5) ?_);refine kz7 rfl _ _ rfl m.heap.size (by rfl) 107 #[.int .i64 (p:Int),.int .i64 (f:Int),.int .i64 (t:Int)] (0,0) _ d.out underlying107 (by rfl) gm ?_)
  | ((with_reducible refine aj 107 (.tmp 2) _ ?_);refine ai rfl _ _ _ rfl w.heap.size 107 #[.int .i64 0,.int .i64 0,.int .i64 0] #[.int .i64 (p:Int),.int .i64 (f:Int),.int .i64 (t:Int)] (by rfl) (by rfl) h.out rfl gm (by simp[Value.oneCell']) ?_;intro w4 b a;have j:=y5 b;have i:=y5 a;clear b a))
 exact kqq (v:=.tuple #[.agg #[.int .i64 (p:Int),.int .i64 (f:Int),.int .i64 (t:Int)],.int .i64 0]) (aY results237 _ j.out rfl rfl) rfl ⟨rfl,i.out.below k.out (kqa _)⟩
theorem md_at{i:Nat}(h:mdOk G i=true):∃T S:Nat,T<8/\szAt G i=S/\2<=S/\S<=10/\An (wd G i)=⟨0,(S:Int),1,(T:Int),false,0⟩/\aD (wd G i)=true/\b8 (wd G (96+2*T)) (wd G (96+2*T+1))=true/\(S:Int)=((bp (cG (wd G (96+2*T))).length:Nat):Int):=by
 have c:=kA h;unfold mdOk at h;simp only[kqs,kqw,kxq] at h;obtain⟨a,g,j,b⟩:=h;have k:jk (aq (wd G i))=true:=by unfold aD at a;simp only[kqs] at a;exact a.1
 have h5:=(bC _).1 k;obtain⟨T,f⟩:=kqz (show 0<=(aq (wd G i)).typ by omega);have d:(aq (wd G i)).size=((szAt G i:Nat):Int):=rfl;unfold dm at b;simp only[kqs,kqw] at b;have e:tyA (aq (wd G i))=96+2*T:=by unfold tyA;rw[f];simp
 rw[e,d] at b;refine⟨T,szAt G i,by omega,rfl,c.1,c.2.2,?_,a,b.1,by rw[dp];exact b.2⟩;rw[(kL a).1,<-f,<-d,<-g,<-j];rfl
theorem CC(A:Option Addr)(G:List Nat)(c n t:Nat)(w:World)(o:G.length=n)(O:256<=n)(hm:n<=2048)(g:t<=n)(m:128<=t)(h:mvd G 128 t=true)(j:RdW w w.heap.size A G)(f:∀x∈G,x<2^64):
 Calls prog 240 #[.slice A n c,.int .i64 (t:Int)] w λe a=>e=.returned (.bool true)/\Below w.heap.size w a:=by
 have C:=y5 (λi (hi:i<t) (hmv:mvd G i t=true)=>show mdOk G i=true/\mvd G (i+szAt G i) t=true/\i+szAt G i<=t by
  have d:mdOk G i=true:=by
   cases b:mdOk G i with
   | true=>rfl
   | false=>rw[qX hi b] at hmv;cases hmv
  have a:=kk hi d;rw[hmv] at a;refine⟨d,a.symm,?_⟩;by_cases b:i+szAt G i<=t
  .exact b
  rw[jL (by omega),eq_comm,kqw] at a;omega)
 obtain⟨B,k⟩:=yq0 (λi W=>pj (wd G i) W (fH f i)) (λt b r l p q W g h a (j:RdW W W.heap.size A G)=>v7 A G c n t b r l p q W o (by omega) O g h a j f);have D:Hid (∀W r,r<n->RdW W W.heap.size A G->∃b g,A=some ⟨b,g,none⟩/\b<W.heap.size/\W.cell? ⟨b,g+r,none⟩=some (.int .u64 (wd G r:Int))):=y5 λW r hr2 h=>by
  obtain⟨b,g,e,a,l⟩:=RdW.at_ h (show r<G.length by omega);rw[<-bY] at l;exact⟨b,g,e,a,l⟩
 obtain⟨F,L⟩:=yq0 j h;clear j f o h;go_enter func240,ntmps240;go_wp2_with fail;go_loopw [5] (λa wr=>∃i:Nat,128<=i/\i<=t/\a=.int .i64 i/\Hid (mvd G i t=true)/\Below w.heap.size w wr) (λi _=>t-(intOf i).toNat)
 case atStart=>exact⟨128,kqa _,m,rfl,L,kqe _ _⟩
 obtain⟨i,hi1,hi2,rfl,u,h⟩:=hrel;have H:=h.size;by_cases q:i<t
 .obtain ⟨d,f,p⟩:=C.out i q u.out;obtain⟨T,S,P,s,k3,k4,y,E,I,J⟩:=md_at d;rw[s] at f p;have a:=y5 (B.out i);rw[y,E] at a;unfold Bk.val at a;dsimp only at a;have z:=y5 (F.out.up h H);obtain⟨N,Q,l,hbA,K⟩:=D.out wr i (by omega) z.out;subst l;obtain⟨v,o⟩:=xq (wd G i);rw[o] at K a;obtain⟨l,M⟩:=yq0 f (λW (j:RdW W W.heap.size (some ⟨N,Q,none⟩) G)=>k.out T 0 (S:Int) 1 false 0 W P I J j);have hi0:(0:Int)<=(i:Int):=(by omega);have hin:(i:Int)<(n:Int):=(by omega);have hit:(i:Int)<(t:Int):=(by omega);have hwt:IntKind.i64.wrap ((t:Int)-(i:Int))=(t:Int)-(i:Int):=kqo _ (by omega);have hwi:IntKind.i64.wrap ((i:Int)+(S:Int))=(i:Int)+(S:Int):=kqo _ (by omega);have d1:decide ((t:Int)-(i:Int)<(S:Int))=false:=(by rw[kqb];omega);have r:=y5 h;clear d f o s y E I J h;go_wp2_with fail;refine (a.out wr).mono ?_;rintro e I ⟨rfl,f⟩;have j:=y5 (r.out.trans (f.mono H));have d:=y5 (j.out.alloc j.out.size (.cells #[.int .i64 0,.int .i64 (S:Int),.int .i64 1,.int .i64 (T:Int),.bool false,.int .u64 0] 55));obtain⟨y,E⟩:=yq0 (yq8 F d) (Bx.new I 55 #[.int .i64 0,.int .i64 (S:Int),.int .i64 1,.int .i64 (T:Int),.bool false,.int .u64 0]);clear f K;go_wp2_with fail;refine (M.out _ y.out).mono ?_;rintro e J ⟨rfl,f⟩;have o:=E.out.up f E.out.lt;have q1:J.cell? ⟨I.heap.size,1,none⟩=some (.int .i64 (S:Int)):=o.cell 1;have s:=yq7 d f;clear f o;go_wp2;go_roundw;exact⟨i+S,by omega,p,by rw[kjo],l,s.out⟩;simp[intOf];omega
 have hkd:decide ((i:Int)<(t:Int))=false:=(by rw[kqb];omega);have hkn:decide (i<t)=false:=by rw[kqb];exact q
 have r:=y5 h;clear h;go_wp2;go_ret;exact⟨rfl,r.out⟩
theorem rd_hp(h:bh G 128 128=0):ao G=0:=by
 obtain⟨l,a,b,ea,-,d,e,-,-,-,-,-,-,f,-⟩:=vC h;obtain rfl:a=128:=(by omega);have c:l.all (dQ G)=true:=kzt.2 f;simp[ao,d,e,c]
theorem uh(h:aB G=0):cJ G=0/\(wd G 16=4/\mvd G 128 (wd G 18)=true/\bh G (wd G 17:Nat) (wd G 18:Nat)=0\/wd G 16=3/\bh G 128 128=0/\ao G=0\/wd G 16<3/\ao G=0):=by
 unfold aB at h;by_cases a:cJ G=0
 .rw[if_pos a] at h;refine⟨a,?_⟩;by_cases c:wd G 16=4
  .rw[if_pos c] at h;split at h
   .rename_i hm;exact .inl ⟨c,hm,h⟩
   simp at h
  rw[if_neg c] at h;by_cases b:wd G 16=3
  .rw[if_pos b] at h;exact .inr (.inl ⟨b,h,rd_hp h⟩)
  rw[if_neg b] at h;have h5:=(cy _ _ _).1 (cR (dN a).1).2.2;exact .inr (.inr ⟨by omega,h⟩)
 rw[if_neg a] at h;exact absurd h a
theorem n8(A:Option Addr)(G:List Nat)(c n:Nat)(w:World)(z:G.length=n)(h:aB G=0)(N:RdW w w.heap.size A G)(C:∀x∈G,x<2^64):
 Calls prog 189 #[.slice A n c] w λe a=>e=.returned (.int .i64 0)/\Below w.heap.size w a:=by
 obtain⟨L,S⟩:=uh h;obtain⟨O,y,D⟩:=cR (dN L).1;obtain⟨⟨-,-,s⟩,-⟩:=(bo G).1 y;have R:=dA G O;obtain⟨m,Q⟩:=yq0 (FX A G c n w z L N C) N;rcases S with⟨T,U,r⟩|⟨K,r,J⟩|⟨K,J⟩
 .have a:128<=wd G 18:=by
   rcases (cy _ _ _).1 D with⟨-,-,q,-⟩|⟨q,-⟩|⟨q,-⟩
   .exact ((a9 _).1 q).1
   .omega
   omega
  obtain⟨P,l⟩:=yq0 (λW (h:RdW W W.heap.size A G)=>CC A G c n (wd G 18) W z (by omega) (by omega) (by omega) a U h C) (λW (h:RdW W W.heap.size A G)=>qR A G c n (wd G 17:Nat) (wd G 18:Nat) W z r h C);obtain⟨f,v⟩:=xq (wd G 17);obtain⟨t,u⟩:=xq (wd G 18);rw[T,v,u] at m;rw[u] at P;rw[v,u] at l;obtain⟨q,M⟩:∃q,gQ G (f:Int) (t:Int)=q:=⟨_,rfl⟩;rw[M] at l;unfold phV at m;(try simp only[kq1] at m);clear N C z h L O y D s R T U r a v u M;go_enter func189,ntmps189;go_wp2_with fail;refine m.out.mono ?_;rintro e E ⟨rfl,g⟩;have b:=y5 (g.alloc g.size (.cells #[.int .i64 4,.int .i64 (f:Int),.int .i64 (t:Int)] 107));obtain⟨j,F⟩:=yq0 (yq8 Q b) (Bx.new E 107 #[.int .i64 4,.int .i64 (f:Int),.int .i64 (t:Int)]);clear g;go_wp2_with fail;refine (P.out _ j.out).mono ?_;rintro e H ⟨rfl,a⟩;have k:=y5 (F.out.up a F.out.lt);have q1:H.cell? ⟨E.heap.size,1,none⟩=some (.int .i64 (f:Int)):=k.out.cell 1;have q2:H.cell? ⟨E.heap.size,2,none⟩=some (.int .i64 (t:Int)):=k.out.cell 2;have i:=yq7 b a;have I:=yq9 j a;clear a;go_wp2_with fail;refine (l.out H I.out).mono ?_;rintro e V ⟨⟨B,d,rfl,-⟩,o⟩;have p:=yq7 i o;clear o;go_wp2;go_ret;exact⟨rfl,p.out⟩
 .obtain⟨P,l⟩:=yq0 (λW (h:RdW W W.heap.size A G)=>fR A G c n W z J h C) (λW (h:RdW W W.heap.size A G)=>qR A G c n 128 128 W z r h C);obtain⟨f,v⟩:=xq (wd G 17);obtain⟨t,u⟩:=xq (wd G 18);rw[K,v,u] at m;obtain⟨q,M⟩:=xq (gQ G 128 128);rw[M] at l;unfold phV at m;(try simp only[kq1] at m);clear N C z h L O y D s R K r J v u M;go_enter func189,ntmps189;go_wp2_with fail;refine m.out.mono ?_;rintro e E ⟨rfl,g⟩;have b:=y5 (g.alloc g.size (.cells #[.int .i64 3,.int .i64 (f:Int),.int .i64 (t:Int)] 107));obtain⟨j,F⟩:=yq0 (yq8 Q b) (Bx.new E 107 #[.int .i64 3,.int .i64 (f:Int),.int .i64 (t:Int)]);clear g;go_wp2_with fail;refine (P.out _ j.out).mono ?_;rintro e H ⟨rfl,a⟩;have k:=y5 (F.out.up a F.out.lt);have M:H.cell? ⟨E.heap.size,0,none⟩=some (.int .i64 3):=k.out.cell 0;have i:=yq7 b a;have I:=yq9 j a;clear a;go_wp2_with fail;refine (l.out H I.out).mono ?_;rintro e V ⟨⟨B,d,rfl,-⟩,o⟩;have p:=yq7 i o;clear o;go_wp2;go_ret;exact⟨rfl,p.out⟩
 have P:=y5 (λW (h:RdW W W.heap.size A G)=>fR A G c n W z J h C);obtain⟨p,d⟩:=xq (wd G 16);obtain⟨f,v⟩:=xq (wd G 17);obtain⟨t,u⟩:=xq (wd G 18);rw[d,v,u] at m;rw[d] at K;unfold phV at m;have e4:((p:Int) != 4)=true:=(by rw[kqx];omega);have e3:((p:Int)==3)=false:=(by rw[kqc];omega);have e4n:(p != 4)=true:=(by rw[kqx];omega);have e3n:(p==3)=false:=(by rw[kqc];omega);clear N C z h L O y D s R K J d v u;go_enter func189,ntmps189;go_wp2_with fail;refine m.out.mono ?_;rintro e E ⟨rfl,g⟩;have b:=y5 (g.alloc g.size (.cells #[.int .i64 (p:Int),.int .i64 (f:Int),.int .i64 (t:Int)] 107));obtain⟨j,F⟩:=yq0 (yq8 Q b) (Bx.new E 107 #[.int .i64 (p:Int),.int .i64 (f:Int),.int .i64 (t:Int)]);clear g;go_wp2_with fail;refine (P.out _ j.out).mono ?_;rintro e H ⟨rfl,a⟩;have k:=y5 (F.out.up a F.out.lt);have M:H.cell? ⟨E.heap.size,0,none⟩=some (.int .i64 (p:Int)):=k.out.cell 0;have i:=yq7 b a;clear a;go_wp2;go_ret;exact⟨rfl,i.out⟩
theorem FG:(prog.info? 55).map (λi=>(i.zero,i.size,i.bytes))=some (some (.agg #[.int .i64 0,.int .i64 0,.int .i64 0,.int .i64 0,.bool false,.int .u64 0]),6,48):=by kernel_rfl
def lvP (l:List Bk) (k:Nat):List Bk:=(l.take k).filter aE
theorem DS(a:k<l.length):lvP l (k+1)=lvP l k++(if aE l[k]=true then [l[k]] else []):=by unfold lvP;rw[kqi a,kxa];cases h:aE l[k]<;>simp[h]
theorem Ir(l:List Bk)(k:Nat):(lvP l k).length<=k:=kzu (kxz _ _) (kky _ _)
def wW (H:Nat) (l:List Bk) (e:Ending) (w':World):Prop:=∃B d,e=.returned (.slice B l.length d)/\w'.ownsRow H 55 6 (.slice B l.length d) l.length (l.flatMap Bk.cells)
theorem mB(A:Option Addr)(G:List Nat)(c n a:Nat)(l:List Bk)(w:World)(f:G.length=n)(i:am (G.length:Int)=true)(ha:a%2=0)(h128:128<=a)(U:a<=n)(d:blocks G a=some l)(h:RdW w w.heap.size A G)(g:∀x∈G,x<2^64):
 Calls prog 194 #[.slice A n c,.int .i64 (a:Int)] w λe b=>wW w.heap.size (l.filter aE) e b/\Below w.heap.size w b:=by
 subst f;have j:=dA G i;have B:=y5 (mJ A G c G.length a w rfl (by omega) (by omega) U ha h g);unfold tP nB at B;rw[d] at B;simp only[kq9,kxv] at B;have b:=(bv (by omega) a l d (by omega) (by omega) (by omega)).1;obtain⟨Q,N⟩:=yq0 (λk (hk:k<l.length)=>DS hk) (Ir l);have P:Hid (lvP l 0=[]):=y5 (by simp[lvP]);have v:Hid (lvP l l.length=l.filter aE):=y5 (by unfold lvP;rw[kzb]);obtain⟨m,f⟩:=xq l.length;have hml:m<=1024:=(by omega);rw[f] at B v;have HM:=y5 f;unfold wW;clear h g d i f b j;obtain⟨i0,f,b,d,u⟩:=kzh FG;obtain⟨HI,R,S,T⟩:=yq2 f b d u;clear f b d u;go_enter func194,ntmps194;go_wp2_with fail;refine B.out.mono ?_;rintro e M ⟨⟨A1,c1,rfl,d,-⟩,b⟩;obtain⟨O,y⟩:=yq0 d b;clear d b;go_wp2_with fail;go_loopw [7,8] (λd b wr=>∃k:Nat,k<=m/\b=.int .i64 k/\wr.ownsRow M.heap.size 55 6 d (lvP l k).length ((lvP l k).flatMap Bk.cells)/\Below M.heap.size M wr) (λ_ i _=>m-(intOf i).toNat)
 case atStart=>exact⟨0,kqv _,rfl,by rw[P.out];exact kq3 _ _ _ _,kqe _ _⟩
 obtain⟨k,hk,rfl,f,z⟩:=hrel;have hz:=z.size;have hkl:=N.out k;by_cases D:k<m
 .have C:k<l.length:=by rw[HM.out];exact D
  obtain⟨b,j,rfl,hbw,E,F,H,I,J,K⟩:=RdB.at_ (Rd.below O.out z) C;have g:=Q.out k C;obtain⟨x,d⟩:=xq (l[k]);rw[d] at E F H I J K g;have h:=y5 (pZ x wr);unfold sF at h;have hk0:(0:Int)<=(k:Int):=(by omega);have hki:(k:Int)<(m:Int):=(by omega);have i:b<wr.heap.size:=(by omega);obtain⟨r,L⟩:=yq0 f z;clear f z d;cases t:aE x
  .rw[t] at g h;rw[if_neg (by decide),kzf] at g;have s:=y5 g;obtain⟨V,Z,W,xt,X,Y⟩:=x;dsimp only at E F H I J K h;clear g t;go_wp2_with fail;refine h.out.mono ?_;rintro e w2 ⟨rfl,d⟩;obtain⟨q,o⟩:=yq0 (ag r.out d (kqa _)) (L.out.trans (d.mono hz));clear d;go_wp2;go_roundw;exact⟨k+1,by omega,by go_num,by rw[s.out];exact q.out,o.out⟩;simp[intOf];omega
  rw[t] at g h;rw[if_pos rfl] at g;obtain⟨V,Z,W,xt,X,Y⟩:=x;have s:=y5 (show (lvP l (k+1)).flatMap Bk.cells=(lvP l k).flatMap Bk.cells++[.int .i64 V,.int .i64 Z,.int .i64 W,.int .i64 xt,.bool X,.int .u64 (Y:Int)]/\(lvP l (k+1)).length=(lvP l k).length+1 by rw[g,kzv,kqu];exact⟨rfl,rfl⟩);dsimp only at E F H I J K h;clear g t;go_wp2_with fail;refine h.out.mono ?_;rintro e w2 ⟨rfl,d⟩;obtain⟨q,o⟩:=yq0 (ag r.out d (kqa _)) (L.out.trans (d.mono hz));have u:=o.out.size;have r0:=(d.cell (p:=⟨b,j+k*6,none⟩) i).trans E;have r1:=(d.cell (p:=⟨b,j+k*6+1,none⟩) i).trans F;have r2:=(d.cell (p:=⟨b,j+k*6+2,none⟩) i).trans H;have r3:=(d.cell (p:=⟨b,j+k*6+3,none⟩) i).trans I;have r4:=(d.cell (p:=⟨b,j+k*6+4,none⟩) i).trans J;have r5:=(d.cell (p:=⟨b,j+k*6+5,none⟩) i).trans K;clear d E F H I J K;go_wp2_with (at_builtin;refine kq7 _ rfl _ _ 48 rfl M.heap.size 55 i0 _ 6 48 underlying48 HI.out R.out S.out T.out rfl (by decide) _ _ _ rfl (q.out.alloc _) ⟨_,0,none⟩ 1 1 [.int .i64 V,.int .i64 Z,.int .i64 W,.int .i64 xt,.bool X,.int .u64 (Y:Int)] rfl rfl (bc _ _ _) (by simp[Value.oneCell']) (by unfold maxLen;omega) (by omega) (by simp;omega) ?_;intro v1 w6 d g _;have t:=y5 (ay o.out u q.out g);have E:=y5 d;clear d g);go_roundw;exact⟨k+1,by omega,by go_num,by rw[s.out.1,s.out.2];exact E.out,t.out⟩;simp[intOf];omega
 have b:k=m:=(by omega);have d:lvP l k=l.filter aE:=by rw[b];exact v.out
 rw[d] at f;obtain⟨e,g,rfl⟩:=aw f;obtain⟨r,L⟩:=yq0 f z;have hkd:decide ((k:Int)<(m:Int))=false:=(by rw[kqb];omega);have hkn:decide (k<m)=false:=by rw[kqb];exact D
 clear b d f z;go_wp2;go_ret;exact⟨⟨e,g,rfl,ab r.out y.out.size⟩,y.out.trans (L.out.mono y.out.size)⟩
def mvE (G:List Nat) (a u j:Nat):En:=⟨((u+j:Nat):Int),if j=0 then cQ { aq (wd G a) with mark:=false } else if j=1 then 0 else wd G (a+j)⟩
def mvQ (G:List Nat) (a u k:Nat):List En:=(List.range k).map (mvE G a u)
theorem F0(G:List Nat)(a u k:Nat):mvQ G a u (k+1)=mvQ G a u k++[mvE G a u k]:=by simp[mvQ,List.range_succ]
theorem Ih(G:List Nat)(a u:Nat):mvQ G a u (szAt G a)=jj G a u:=rfl
theorem I1(G:List Nat)(a u k:Nat):(mvQ G a u k).length=k:=by simp[mvQ]
def JL (H:Nat) (l:List En) (e:Ending) (w':World):Prop:=∃B d,e=.returned (.slice B l.length d)/\w'.ownsRow H 89 2 (.slice B l.length d) l.length (l.flatMap En.cells)
theorem Bg(A:Option Addr)(G:List Nat)(c n a u:Nat)(w:World)(E:G.length=n)(hm:n<=2048)(hu:u<=4096)(d:stands G a=true)(j:(aq (wd G a)).kind=1)(J:RdW w w.heap.size A G):
 Calls prog 195 #[.slice A n c,sF (bkAt G a),.int .i64 (u:Int)] w λe b=>JL w.heap.size (jj G a u) e b/\Below w.heap.size w b:=by
 have q:=aC d;obtain⟨S,m⟩:=xq (szAt G a);rw[m] at q;have o:(aq (wd G a)).size=(S:Int):=by rw[<-m];rfl
 obtain⟨T,y⟩:=xq (wd G a/512%128);have s:(aq (wd G a)).typ=(T:Int):=by rw[<-y];rfl
 have O:T<128:=(by omega);have U:=y5 (λW=>lh 1 T S false W (by omega) O (by omega));obtain⟨V,v⟩:∃V,cQ { aq (wd G a) with mark:=false }=V:=⟨_,rfl⟩;have x:1+mE false*256+T*512+S*65536+jt (1+mE false*256+T*512+S*65536)%4294967296*4294967296=V:=by rw[<-v];unfold cQ kr;rw[o,s,j];simp
 rw[x] at U;have C:sF (bkAt G a)=.agg #[.int .i64 (a:Int),.int .i64 (S:Int),.int .i64 1,.int .i64 (T:Int),.bool (bkAt G a).mark,.int .u64 ((bkAt G a).next:Int)]:=by unfold sF bkAt;dsimp only;rw[o,s,j]
 rw[C];obtain⟨z,f⟩:=xq ((bkAt G a).mark);obtain⟨B,g⟩:=xq ((bkAt G a).next);rw[f,g];obtain⟨I,t,p⟩:=yq1 (F0 G a u) (I1 G a u) (Ih G a u);rw[m] at p;have F:Hid ((mvQ G a u 2).flatMap En.cells=[.int .i64 (u:Int),.int .u64 (V:Int),.int .i64 ((u:Int)+1),.int .u64 0]):=y5 (by simp[mvQ,mvE,List.range_succ,En.cells,v]);have H:Hid (∀k,2<=k->mvE G a u k=⟨((u+k:Nat):Int),wd G (a+k)⟩):=y5 λk Z=>by unfold mvE;rw[if_neg (by omega),if_neg (by omega)]
 have K:Hid (∀W r,r<n->RdW W W.heap.size A G->∃b l,A=some ⟨b,l,none⟩/\b<W.heap.size/\W.cell? ⟨b,l+r,none⟩=some (.int .u64 (wd G r:Int))):=y5 λW r hr2 h=>by
  obtain⟨b,l,e,i,D⟩:=RdW.at_ h (show r<G.length by omega);rw[<-bY] at D;exact⟨b,l,e,i,D⟩
 rw[E] at q;have Y:=y5 J;have hwu:IntKind.i64.wrap ((u:Int)+1)=(u:Int)+1:=kqo _ (by omega);have i:=Bx.new w 55 #[.int .i64 (a:Int),.int .i64 (S:Int),.int .i64 1,.int .i64 (T:Int),.bool z,.int .u64 (B:Int)];obtain⟨R,r⟩:=yq0 i ((kqe w.heap.size w).alloc (kqa _) (.cells #[.int .i64 (a:Int),.int .i64 (S:Int),.int .i64 1,.int .i64 (T:Int),.bool z,.int .u64 (B:Int)] 55));have W:=i.cell 1;have D:=i.cell 3;unfold JL;clear J E d j o s x v y C f g m i;obtain⟨i0,i,d,g,f⟩:=kzh bE;obtain⟨X,L,M,N⟩:=yq2 i d g f;clear i d g f;go_enter func195,ntmps195;go_wp2_with fail;refine (U.out _).mono ?_;rintro e y ⟨rfl,d⟩;have s:=y5 (R.out.up d R.out.lt);have f:=yq7 r d;have g:=f.out.size;clear d W D;go_wp2_with fail;go_loopw [7,8] (λi d wr=>∃k:Nat,2<=k/\k<=S/\d=.int .i64 k/\wr.ownsRow y.heap.size 89 2 i k ((mvQ G a u k).flatMap En.cells)/\Below y.heap.size y wr) (λ_ i _=>S-(intOf i).toNat)
 case atStart=>exact⟨2,kqa _,q.1,rfl,by rw[F.out];exact a8 (n:=2) (sz:=2) y 89 _ (kqa _) (by rfl) (by unfold maxLen;omega),(kqe _ _).alloc (kqa _) _⟩
 obtain⟨k,P,Z,rfl,d,m⟩:=hrel;have hz:=m.size;have o:=y5 (s.out.up m s.out.lt);have b0:=o.out.cell 0;have W:=o.out.cell 1;have hbl:=o.out.lt;by_cases Q:k<S
 .obtain ⟨bA,oA,e,hbA,v0⟩:=K.out wr (a+k) (by omega) (Y.out.up (f.out.trans (m.mono g)) (f.out.trans (m.mono g)).size);subst e;have e:=I.out k;rw[H.out k P] at e;obtain⟨v,x⟩:=xq (wd G (a+k));rw[x] at v0 e;have J:=y5 (show (mvQ G a u (k+1)).flatMap En.cells=(mvQ G a u k).flatMap En.cells++[.int .i64 ((u:Int)+(k:Int)),.int .u64 (v:Int)] by rw[e,kzv];rfl);have hki:(k:Int)<(S:Int):=(by omega);have hwk:IntKind.i64.wrap ((u:Int)+(k:Int))=(u:Int)+(k:Int):=kqo _ (by omega);have hwa:IntKind.i64.wrap ((a:Int)+(k:Int))=(a:Int)+(k:Int):=kqo _ (by omega);have ha0:(0:Int)<=(a:Int)+(k:Int):=(by omega);have ha1:(a:Int)+(k:Int)<(n:Int):=(by omega);have htn:((a:Int)+(k:Int)).toNat=a+k:=(by omega);obtain⟨i,C⟩:=yq0 d m;clear e x d m;go_wp2_with (at_builtin;refine kq7 _ rfl _ _ 26 rfl y.heap.size 89 i0 _ 2 16 underlying26 X.out L.out M.out N.out rfl (by decide) _ _ _ rfl (i.out.alloc _) ⟨_,0,none⟩ 1 1 [.int .i64 ((u:Int)+(k:Int)),.int .u64 (v:Int)] rfl rfl (bc _ _ _) (by simp[Value.oneCell']) (by unfold maxLen;omega) (by omega) (by simp;omega) ?_;intro v1 w6 e x _;have D:=y5 (ay C.out hz i.out x);have E:=y5 e;clear e x);go_roundw;exact⟨k+1,by omega,by omega,by go_num,by rw[J.out];exact E.out,D.out⟩;simp[intOf];omega
 have e:k=S:=(by omega);obtain⟨x,D,rfl⟩:=aw d;obtain⟨i,C⟩:=yq0 d m;have j:decide ((k:Int)<(S:Int))=false:=(by rw[kqb];omega);have hkn:decide (k<S)=false:=by rw[kqb];exact Q
 have v:=y5 e;clear e d m;go_wp2;go_ret;refine⟨⟨x,D,?_,?_⟩,f.out.trans (C.out.mono f.out.size)⟩
 .rw[<-p.out,t.out,v.out];rfl
 have h:=ab i.out f.out.size;rw[v.out] at h;rw[<-p.out,t.out];exact h
theorem sL(A:Option Addr)(E:List En)(c n p H:Nat)(w:World)(d:E.length=n)(o:n<=100000)(hp:p<=100)(a:w.ownsRow H 89 2 (.slice A n c) n (E.flatMap En.cells))(k:H<=w.heap.size):
 Calls prog 191 #[.slice A n c,.int .i64 (p:Int)] w λe b=>JL H (iA E p) e b/\Below w.heap.size w b:=by
 subst d;unfold JL;by_cases h:32<=E.length
 .have l:=cD (p:=p) h;obtain⟨g,c',e⟩:=fa a (by omega);have f:=d6 a;cases e;have i:=y5 (wj a (show 31<=E.length by omega));have m:(E.take 31).length=31:=(by rw[kq6];omega);have b:=y5 (And.intro l m);have j:decide ((31:Int)<(E.length:Int))=true:=(by rw[kqh];omega);have d:decide (31<E.length)=true:=(by rw[kqh];omega);have c31:(31:Int)<=(c:Int):=(by omega);have l31:(31:Int)<=(E.length:Int):=(by omega);clear l m h a f;go_enter func191,ntmps191;go_wp2;go_ret;refine⟨⟨some ⟨g,0,none⟩,c,by rw[b.out.1,b.out.2];rfl,?_⟩,kqe _ _⟩;rw[b.out.1,b.out.2,ia En.cells 2 En.len];exact i.out
 obtain⟨b,m⟩:=yq0 (ii (p:=p) h) (Rd.more (Rd.of_own a) (kqa _));have j:decide ((31:Int)<(E.length:Int))=false:=(by rw[kqb];omega);have d:decide (31<E.length)=false:=(by rw[kqb];omega);have hwp:IntKind.u64.wrap (p:Int)=(p:Int):=kzi _ (by omega);have hEl:E.length<=31:=(by omega);have l:=y5 k;clear h a k o;obtain⟨o,f,a,d,e⟩:=kzh bE;obtain⟨k,h,i,j⟩:=yq2 f a d e;clear f a d e;go_enter func191,ntmps191;go_wp2_with (at_builtin;refine aW _ (by rfl) _ _ 26 rfl w.heap.size 89 o _ 2 16 underlying26 k.out h.out i.out j.out rfl (by decide) (.slice (some ⟨w.heap.size,0,none⟩) 1 1) 1 [.int .i64 16,.int .u64 (p:Int)] (by rfl) (a8 (n:=1) (sz:=2) w 89 #[.int .i64 16,.int .u64 (p:Int)] (kqa _) (by rfl) (by unfold maxLen;omega)) w.heap.size (A) (E.length) c (E.flatMap En.cells) (by rfl) (by rw[bU En.cells 2 En.len]) (Rd.alloc (m.out) (kqa _) _) (db En.one _) (by unfold maxLen;omega) (by omega) (by simp) ?_;intro v1 wa a f;have e:=bi ((kqe w.heap.size w).alloc (kqa _) _) (by simp) (a8 (n:=1) (sz:=2) w 89 #[.int .i64 16,.int .u64 (p:Int)] (kqa _) (by rfl) (by unfold maxLen;omega)) f;have d:=y5 a;have g:=y5 e;clear a e f);go_ret;have a:=ab d.out l.out;rw[kjj] at a;obtain⟨e,f,rfl⟩:=aw a;refine⟨⟨e,f,by rw[b.out];rfl,?_⟩,g.out⟩;rw[b.out,kq4];exact a
theorem z9(h:dJ G=0):∃l,blocks G (wd G 17)=some l/\l.filter aE=[]/\128<=wd G 17/\wd G 17%2=0/\wd G 17<=G.length:=by
 obtain⟨f,h2,d⟩:=kb h;obtain⟨o,-⟩:=gA h;obtain⟨-,k⟩:=uh f;rcases k with⟨-,-,e⟩|⟨q,-⟩|⟨q,-⟩
 .obtain ⟨l,a,b,ea,-,i,-,r,s,-,-,-,t,-⟩:=vC e;obtain rfl:wd G 17=a:=(by omega);refine⟨l,i,?_,s,r,t⟩;have m:fY G=((wd G 17:Nat):Int):=by unfold fY;rw[if_neg (by omega)]
  have j:eU G.length ((wd G 17:Nat):Int)=false:=by simp only[eU,kzo,kqb,kqt];omega
  have n:=(cC o j (l:=l) (by rw[kqf];exact i)).2;unfold lfN at d;rw[if_pos f,if_neg (by omega),m,n] at d;unfold fC at d;rw[kzw] at d;have g:l.filter (·.mark)=[]:=kxe d;rw[kj1] at g |-;intro x p c;refine g x p ?_;unfold aE at c;simp only[kqs] at c;exact c.2
 .omega
 omega
theorem CE(A:Option Addr)(G:List Nat)(c n:Nat)(w:World)(b:G.length=n)(h:dJ G=0)(j:RdW w w.heap.size A G)(d:∀x∈G,x<2^64):
 Calls prog 198 #[.slice A n c] w λe a=>e=.returned (.tuple #[.int .i64 (wd G 18:Int),.int .i64 0])/\Below w.heap.size w a:=by obtain⟨o,p,-⟩:=kb h;obtain⟨s,r,-⟩:=gA h;obtain⟨l,u,v,y,z,B⟩:=z9 h;obtain⟨k,i,a⟩:=yq1 (n8 A G c n w b o j d) (λW (h:RdW W W.heap.size A G)=>kJ A G c n W b r h d) (λW (h:RdW W W.heap.size A G)=>mB A G c n (wd G 17) l W b s z y (by omega) u h d);rw[v] at a;unfold wW at a;simp only[kxd] at a;obtain⟨f,g⟩:=xq (wd G 17);obtain⟨t,m⟩:=xq (wd G 18);rw[p,g,m] at i;rw[g] at a;rw[m];unfold phV at i;(try simp only[kq1] at i);have q:=y5 j;clear j d h o p s r u v y z B g m b;go_enter func198,ntmps198;go_wp2_with fail;refine k.out.mono ?_;rintro e s ⟨rfl,b⟩;have h:=y5 b;have m:=yq9 q b;clear b;go_wp2_with fail;refine (i.out s m.out).mono ?_;rintro e r ⟨rfl,g⟩;have d:=h.out.trans (g.mono h.out.size);have b:=y5 (d.alloc d.size (.cells #[.int .i64 4,.int .i64 (f:Int),.int .i64 (t:Int)] 107));obtain⟨o,p⟩:=yq0 (yq8 q b) (Bx.new r 107 #[.int .i64 4,.int .i64 (f:Int),.int .i64 (t:Int)]);clear g d;go_wp2_with fail;refine (a.out _ o.out).mono ?_;rintro e u ⟨⟨B,d,rfl,-⟩,g⟩;have j:=y5 (p.out.up g p.out.lt);have q2:u.cell? ⟨r.heap.size,2,none⟩=some (.int .i64 (t:Int)):=j.out.cell 2;have e:=yq7 b g;clear g;go_wp2;go_ret2;exact⟨rfl,e.out⟩
theorem Bi(S:Nat):2+mE false*256+0*512+S*65536+jt (2+mE false*256+0*512+S*65536)%4294967296*4294967296=cQ (eQ S):=by unfold cQ kr eQ;simp
theorem yO(A:Option Addr)(G:List Nat)(c n:Nat)(w:World)(b:G.length=n)(h:dJ G=0)(i:RdW w w.heap.size A G)(d:∀x∈G,x<2^64):
 Calls prog 134 #[.slice A n c] w λe a=>ey w.heap.size 0 (du G) e a/\Below w.heap.size w a:=by
 obtain⟨j,-,-,-,-,l,-,a⟩:=gA h;have B:=dA G j;have g:=y5 (CE A G c n w b h i d);have f:Hid (du G=[⟨16,0⟩,⟨17,0⟩,⟨18,0⟩]++(if wd G 18=n then [] else [⟨(wd G 18:Int),cQ (eQ (n-wd G 18))⟩,⟨((wd G 18+1:Nat):Int),0⟩])):=y5 (by
  unfold du;rw[if_pos h,a,b];rfl)
 rw[b] at B l;obtain⟨t,k⟩:=xq (wd G 18);rw[k] at g f l;clear i d h j a b k;obtain⟨C,h,a,b,d⟩:=kzh bE;obtain⟨z,s,u,v⟩:=yq2 h a b d;clear h a b d;by_cases o:t=n
 .subst o;rw[if_pos rfl,kzf] at f;go_enter func134,ntmps134;go_wp2_with fail;refine g.out.mono ?_;rintro e h ⟨rfl,b⟩;have a:=y5 b;clear b;go_wp2;go_ret2;refine⟨⟨_,_,by rw[f.out];rfl,?_⟩,a.out.alloc a.out.size _⟩;rw[f.out];exact ab (a8 (n:=3) (sz:=2) h 89 #[.int .i64 16,.int .u64 0,.int .i64 17,.int .u64 0,.int .i64 18,.int .u64 0] (kqa _) (by rfl) (by unfold maxLen;omega)) a.out.size
 rw[if_neg o] at f;obtain⟨S,d⟩:=xq (n-t);rw[d] at f;have p:=y5 (λW=>lh 2 0 S false W (by omega) (by omega) (by omega));rw[Bi] at p;obtain⟨V,i⟩:=xq (cQ (eQ S));rw[i] at f p;have htn:(t:Int)<(n:Int):=(by omega);have hwS:IntKind.i64.wrap ((n:Int)-(t:Int))=(S:Int):=by rw[kqo _ (by omega)];omega
 have heS:(n:Int)-(t:Int)=(S:Int):=(by omega);have hw1:IntKind.i64.wrap ((t:Int)+1)=(t:Int)+1:=kqo _ (by omega);(try simp only[kq1] at p);clear i d;go_enter func134,ntmps134;go_wp2_with fail;refine g.out.mono ?_;rintro e h ⟨rfl,b⟩;obtain⟨a,HBA,r⟩:=yq1 b (b.alloc b.size (.cells #[.int .i64 16,.int .u64 0,.int .i64 17,.int .u64 0,.int .i64 18,.int .u64 0] 89)) (a8 (n:=3) (sz:=2) h 89 #[.int .i64 16,.int .u64 0,.int .i64 17,.int .u64 0,.int .i64 18,.int .u64 0] (kqa _) (by rfl) (by unfold maxLen;omega));clear b;go_wp2_with fail;refine (p.out _).mono ?_;rintro e w3 ⟨rfl,d⟩;obtain⟨i,j⟩:=yq0 ((kqe h.heap.size h).alloc (kqa _) (.cells #[.int .i64 16,.int .u64 0,.int .i64 17,.int .u64 0,.int .i64 18,.int .u64 0] 89) |>.trans (d.mono (by simp))) (ag r.out d (kqa _));have y:=i.out.size;clear d;go_wp2_with (at_builtin;refine kq7 _ rfl _ _ 26 rfl h.heap.size 89 C _ 2 16 underlying26 z.out s.out u.out v.out rfl (by decide) _ _ _ rfl (j.out.alloc _) ⟨_,0,none⟩ 2 2 [.int .i64 (t:Int),.int .u64 (V:Int),.int .i64 ((t:Int)+1),.int .u64 0] rfl rfl (bc _ _ _) (by simp[Value.oneCell']) (by unfold maxLen;omega) (by omega) (by simp;omega) ?_;intro v1 w6 d m _;have q:=y5 (ay i.out y j.out m);have k:=y5 d;clear d m);obtain⟨e,h,b⟩:=aw k.out;go_ret2;refine⟨⟨e,h,by rw[f.out,b];rfl,?_⟩,a.out.trans (q.out.mono a.out.size)⟩;rw[f.out];have d:=ab k.out a.out.size;rw[b] at d;exact d
def MvO (H:Nat) (l:List (Int × Int)) (e:Ending) (w':World):Prop:=∃B d,e=.returned (.tuple #[.slice B l.length d,.int .i64 0])/\w'.ownsRow H 275 2 (.slice B l.length d) l.length (l.flatMap gn)
theorem r9(A:Option Addr)(G:List Nat)(c n:Nat)(w:World)(a:G.length=n)(l:cn G=0)(d:RdW w w.heap.size A G)(b:∀x∈G,x<2^64):
 Calls prog 277 #[.slice A n c] w λe f=>MvO w.heap.size (di G) e f/\Below w.heap.size w f:=by obtain⟨g,j,k⟩:=cE l;obtain⟨i,f⟩:=yq0 (fR A G c n w a g d b) (λW (h:RdW W W.heap.size A G)=>qR A G c n 128 128 W a j h b);rw[<-k] at f;have m:=y5 d;clear d b g j k l a;unfold MvO;go_enter func277,ntmps277;go_wp2_with fail;refine i.out.mono ?_;rintro e l ⟨rfl,a⟩;have b:=y5 a;have k:=yq9 m a;clear a;go_wp2_with fail;refine (f.out l k.out).mono ?_;rintro e w2 ⟨⟨B,d,rfl,a⟩,g⟩;have h:=yq7 b g;have j:=y5 (ab a b.out.size);clear g a;go_wp2;go_ret2;exact⟨⟨B,d,rfl,j.out⟩,h.out⟩
def fsP (G:List Nat) (k:Nat):List En:=(slFix G (di G) k).getD []
theorem fs_at(h:dh G=0)(hk:k<16):
 ((slAt G k).used=false/\fsP G (k+1)=fsP G k)\/((slAt G k).used=true/\∃t V:Nat,gq (di G) (slAt G k).at_=some (t:Int)/\t<2048/\V=wd G (112+k)/4294967296*4294967296+t/\V<18446744073709551616/\fsP G (k+1)=fsP G k++(if wd G (112+k)=V then [] else [⟨((112+k:Nat):Int),V⟩])):=by
 have m:cn G=0:=by
  unfold dh at h;split at h
  .assumption
  exact absurd h (by assumption)
 have b:∀j,j<=16->∃o,slFix G (di G) j=some o:=by
  intro j c;cases d:slFix G (di G) j with
  | some o=>exact⟨o,rfl⟩
  | none =>
   have a:=pp d c;unfold dh at h;rw[if_pos m] at h;split at h
   .rw[a] at h;simp at h
   simp at h
 obtain⟨o,i⟩:=b k (by omega);obtain⟨o2,l⟩:=b (k+1) (by omega);have c:=l;simp only[slFix,i] at c;unfold fsP;rw[i,l];simp only[kq9];cases a:gp G (di G) k with
 | none=>rw[a] at c;cases c
 | some y =>
  rw[a] at c;simp only[kzs,Option.some.injEq] at c;subst c;unfold gp at a;cases g:(slAt G k).used
  .left;rw[g] at a;simp only[kzp,if_false,Option.some.injEq] at a;subst a;exact⟨rfl,by simp⟩
  right;rw[g] at a;simp only[if_true] at a;have d:(slAt G k).at_=((wd G (112+k)%4294967296:Nat):Int):=rfl;have f:(slAt G k).gen=((wd G (112+k)/4294967296%2147483648:Nat):Int):=rfl;have hus:wd G (112+k)/9223372036854775808=1:=by
   have:(wd G (112+k)/9223372036854775808==1)=true:=g
   simpa using this
  rw[d,kqf] at a;unfold ge at a;split at a
  .cases a
  rename_i t ht;split at ht
  .cases ht
  obtain⟨n,rfl,n1,n2,q,-⟩:=yr m ht;refine⟨rfl,n,wd G (112+k)/4294967296*4294967296+n,by rw[d];exact ht,q,rfl,by omega,?_⟩;have p:nP ⟨(slAt G k).gen,true,(n:Int)⟩=wd G (112+k)/4294967296*4294967296+n:=by unfold nP;rw[f];simp only[kqf,if_true];omega
  rw[p] at a;split at a
  .rename_i e;rw[if_pos e];simp only[Option.some.injEq] at a;rw[a]
  rename_i e;rw[if_neg e];simp only[Option.some.injEq] at a;rw[a]
theorem CV(h:dh G=0):fsP G 16=dg G:=by unfold fsP dg;rw[if_pos h]
theorem AK(G:List Nat)(k:Nat):(fsP G k).length<=k:=by
 unfold fsP;cases h:slFix G (di G) k with
 | none=>simp
 | some o=>exact ox h
theorem fsv_ok(h:dh G=0):cn G=0/\slsOk G=true:=by
 unfold dh at h;split at h
 .rename_i h1;refine⟨h1,?_⟩;cases a:slsOk G
  .rw[a] at h;simp at h
  rfl
 exact absurd h (by assumption)
theorem uR(h:cn G=0):(di G).length<=1024:=by obtain⟨h0,c,d⟩:=cE h;obtain⟨l,a,b,-,-,-,-,-,-,-,-,-,-,-,f,e⟩:=vC c;rw[d,e];exact kzu (ig _ _) f.few
theorem or_lo{g:Nat}(hg:g<4294967296)(ht:t<4294967296):bits BinOp.or .u64 ((g:Int)*4294967296) (t:Int)=((g*4294967296+t:Nat):Int):=by
 have h:=u64_or_nat (g*4294967296) t (by omega) (by omega);have e:g*4294967296 ||| t=g*4294967296+t:=by rw[Nat.or_comm,show (4294967296:Nat)=2 ^ 32 by decide,kw (i:=32) (by omega),kjj]
 rw[e] at h;rw[kkm] at h;exact h
theorem or_hi{v V:Nat}(hv:v<18446744073709551616)(ht:t<2048)(a:V=v/4294967296*4294967296+t):bits BinOp.or .u64 ((v:Int)/4294967296*4294967296) (t:Int)=(V:Int):=by have h:=or_lo (g:=v/4294967296) (t:=t) (by omega) (by omega);rw[Int.natCast_ediv] at h;rw[a];exact h
theorem Ba(A:Option Addr)(G:List Nat)(c n:Nat)(w:World)(i:G.length=n)(g:dh G=0)(q:RdW w w.heap.size A G)(l:∀x∈G,x<2^64):
 Calls prog 244 #[.slice A n c] w λe a=>ey w.heap.size 0 (dg G) e a/\Below w.heap.size w a:=by
 obtain⟨o,f⟩:=fsv_ok g;obtain⟨s,-,-⟩:=cE o;have hb:=dA G (ax s).1;rw[i] at hb;obtain⟨u,z⟩:=yq0 (r9 A G c n w i o q l) (λW (h:RdW W W.heap.size A G)=>lZ A G c n W i (by omega) (by omega) h l);unfold Bw at z;rw[f] at z;have hml:=uR o;obtain⟨m,hm⟩:=xq ((di G).length);obtain⟨Kb,S,H,T⟩:=yq2 (λB d a W (h:RdM W W.heap.size B (di G))=>Gg B (di G) d m a W hm (by omega) h) (λk (hk:k<16)=>fs_at g hk) (CV g) (AK G);have U:Hid (∀k,wd G k<18446744073709551616):=y5 (fH l);have Eq:Hid (fsP G 0=[]):=y5 (by simp[fsP,slFix]);have Kc:Hid (∀W r,r<n->RdW W W.heap.size A G->∃b j,A=some ⟨b,j,none⟩/\b<W.heap.size/\W.cell? ⟨b,j+r,none⟩=some (.int .u64 (wd G r:Int))):=y5 λW r hr2 h=>by
  obtain⟨b,j,e,K,a⟩:=RdW.at_ h (show r<G.length by omega);rw[<-bY] at a;exact⟨b,j,e,K,a⟩
 have HR:=y5 q;clear q l s i g o f;unfold MvO at u;rw[hm] at u;obtain⟨i0,g,a,d,f⟩:=kzh bE;obtain⟨HI,Kd,Ke,Kf⟩:=yq2 g a d f;clear g a d f;go_enter func244,ntmps244;go_wp2_with fail;refine u.out.mono ?_;rintro e w1 ⟨⟨BM,dM,rfl,a⟩,d⟩;have F:=y5 d;have I:=yq9 HR d;have W:=y5 (show RdM w1 w1.heap.size BM (di G) from Rd.of_own a);clear d a;go_wp2_with fail;refine (z.out w1 I.out).mono ?_;rintro e D ⟨⟨AS,nS,cS,rfl,d⟩,f⟩;obtain⟨rfl,-,t⟩:=d trivial;have y:=yq7 F f;have Z:=yq9 I f;obtain⟨X,Ka⟩:=yq0 (Rd.up W.out f f.size) (show RdS D D.heap.size AS (slL G) from Rd.of_own t);clear f d t;go_wp2_with fail;go_loopw [8,9] (λf d wr=>∃k:Nat,k<=16/\d=.int .i64 k/\wr.ownsRow D.heap.size 89 2 f (fsP G k).length ((fsP G k).flatMap En.cells)/\Below D.heap.size D wr) (λ_ i _=>16-(intOf i).toNat)
 case atStart=>exact⟨0,kqv _,rfl,by rw[Eq.out];exact kq3 _ _ _ _,kqe _ _⟩
 obtain⟨k,hk,rfl,d,r⟩:=hrel;have R:=r.size;have hkl:=T.out k;by_cases C:k<16
 .obtain ⟨b,j,rfl,K,M,N,O⟩:=RdS.at_ (Rd.below Ka.out r) (show k<(slL G).length by rw[fi];exact C);rw[lH] at M N O;have B:=S.out k C;obtain⟨bA,oA,f,J,P⟩:=Kc.out wr (112+k) (by omega) (Z.out.up r R);subst f;have L:=U.out (112+k);obtain⟨v,g⟩:=xq (wd G (112+k));obtain⟨s,f⟩:=xq (slAt G k);rw[g,f] at B;rw[g] at P L;rw[f] at M N O;obtain⟨sg,su,sa⟩:=s;dsimp only at M N O B;have hk0:(0:Int)<=(k:Int):=(by omega);have hk1:(k:Int)<16:=(by omega);have hwa:IntKind.i64.wrap (112+(k:Int))=112+(k:Int):=kqo _ (by omega);have ha0:(0:Int)<=112+(k:Int):=(by omega);have ha1:112+(k:Int)<(n:Int):=(by omega);have htn:(112+(k:Int)).toNat=112+k:=(by omega);obtain⟨i,E,Y⟩:=yq1 d r (Rd.up X.out r R);clear d r g f;rcases B with⟨rfl,g⟩|⟨rfl,t,V,ht,Kh,hV,hV2,g⟩
  .have h:=y5 g;clear g;go_wp2;go_roundw;exact⟨k+1,by omega,by go_num,by rw[h.out];exact i.out,E.out⟩;simp[intOf];omega
  have Q:=y5 (Kb.out BM dM sa wr Y.out);rw[ht] at Q;simp only[kq9,kxv] at Q;have hor:=or_hi L Kh hV;by_cases q:v=V
  .rw[if_pos q,kzf] at g;subst q;have h:=y5 g;have Kg:((v:Int) != (v:Int))=false:=by rw[kqt]
   clear g ht hV;go_wp2_with fail;refine Q.out.mono ?_;rintro e w5 ⟨rfl,f⟩;have v5:=(f.cell (p:=⟨bA,oA+(112+k),none⟩) J).trans P;obtain⟨l,o⟩:=yq0 (E.out.trans (f.mono R)) (ag i.out f (kqa _));clear f P M N O;go_wp2;go_roundw;exact⟨k+1,by omega,by go_num,by rw[h.out];exact o.out,l.out⟩;simp[intOf];omega
  rw[if_neg q] at g;have Kg:((V:Int) != (v:Int))=true:=(by rw[kqx];omega);have hnn:(V != v)=true:=(by rw[kqx];omega);have h:=y5 (show (fsP G (k+1)).flatMap En.cells=(fsP G k).flatMap En.cells++[.int .i64 (112+(k:Int)),.int .u64 (V:Int)]/\(fsP G (k+1)).length=(fsP G k).length+1 by rw[g,kzv,kqu];exact⟨rfl,rfl⟩);clear g ht hV q;go_wp2_with fail;refine Q.out.mono ?_;rintro e w5 ⟨rfl,f⟩;have v5:=(f.cell (p:=⟨bA,oA+(112+k),none⟩) J).trans P;obtain⟨l,o⟩:=yq0 (E.out.trans (f.mono R)) (ag i.out f (kqa _));have Kg:=l.out.size;clear f P M N O;go_wp2_with (at_builtin;refine kq7 _ rfl _ _ 26 rfl D.heap.size 89 i0 _ 2 16 underlying26 HI.out Kd.out Ke.out Kf.out rfl (by decide) _ _ _ rfl (o.out.alloc _) ⟨_,0,none⟩ 1 1 [.int .i64 (112+(k:Int)),.int .u64 (V:Int)] rfl rfl (bc _ _ _) (by simp[Value.oneCell']) (by unfold maxLen;omega) (by omega) (by simp;omega) ?_;intro v1 w6 a g _;have q:=y5 (ay l.out Kg o.out g);have M:=y5 a;clear a g);go_roundw;exact⟨k+1,by omega,by go_num,by rw[h.out.1,h.out.2];exact M.out,q.out⟩;simp[intOf];omega
 have e:k=16:=(by omega);have f:fsP G k=dg G:=by rw[e];exact H.out
 rw[f] at d;obtain⟨g,h,rfl⟩:=aw d;obtain⟨i,E⟩:=yq0 d r;have hkd:decide ((k:Int)<16)=false:=(by rw[kqb];omega);have hkn:decide (k<16)=false:=by rw[kqb];exact C
 clear e f d r;go_wp2;go_ret2;exact⟨⟨g,h,rfl,ab i.out y.out.size⟩,y.out.trans (E.out.mono y.out.size)⟩
theorem GU{b:Bk}(h:js l a=some b):∃k,∃c:k<l.length,l[k]=b/\zg l a=(k:Int):=by unfold js at h;obtain⟨e,k,c,d,f⟩:=List.find?_eq_some_iff_getElem.1 h;refine⟨k,c,d,?_⟩;unfold zg;rw[kk6.2 ⟨c,by rw[d];exact e,λj g=>by have:=f j g;rw[kxq] at this;rw[this];simp⟩]
theorem xd(A:Option Addr)(G:List Nat)(c n:Nat)(a:Int)(b:Bk)(w:World)(t:G.length=n)(p:ao G=0)(r:js (aa G) a=some b)(C:RdW w w.heap.size A G)(B:∀x∈G,x<2^64):
 Calls prog 280 #[.slice A n c,.int .i64 a] w λe d=>e=.returned (.tuple #[sF b,.int .i64 0])/\Below w.heap.size w d:=by
 obtain⟨k,s,j,i⟩:=GU r;have z:=dI G;obtain⟨m,y⟩:=xq ((aa G).length);have g:=y5 (i8 A G c n (w.alloc (.cells #[.int .i64 0,.int .i64 0,.int .i64 0,.int .i64 0,.bool false,.int .u64 0] 55)) t p ((C.alloc (kqa _) _).more (by simp)) B);rw[kqm,y] at g;have f:=y5 (λq d W (h:RdB W W.heap.size q (aa G))=>Gx q (aa G) d m a W y (by omega) h);rw[i] at f;obtain⟨l,d⟩:=xq (aa G);rw[d] at g f y z;have u:k<l.length:=by rw[<-d];exact s
 have o:l[k]=b:=by rw[<-j];congr 1<;>exact d.symm
 have hkm:k<m:=(by omega);clear C B r i t p s j d;have t:=mM;obtain⟨K,O,L,P,M,N⟩:=b;unfold sF;dsimp only;go_enter func280,ntmps280;go_wp2_with fail;refine g.out.mono ?_;rintro e S ⟨⟨q,R,rfl,j,-⟩,d⟩;have h:=az d;have B:=h.size;have C:=y5 (Bx.of_new d);have p:=C.out.lt;obtain⟨r,i⟩:=yq0 h j;clear j d h;go_wp2_with fail;refine (f.out q R S i.out).mono ?_;rintro e w2 ⟨rfl,d⟩;have hz2:=d.size;obtain⟨Q,s⟩:=yq0 (C.out.up d p) (r.out.trans (d.mono B));obtain⟨bb,off,rfl,hbw,D,E,F,H,I,J⟩:=RdB.at_ (Rd.below i.out d) u;rw[o] at D E F H I J;dsimp only at D E F H I J;have hk0:(0:Int)<=(k:Int):=(by omega);have hk1:(k:Int)<(m:Int):=(by omega);have hkd:decide ((k:Int)<0)=false:=(by rw[kqb];omega);have h:=y5 Q.out;clear d o;go_wp2_with (first
  | ((with_reducible refine aj 55 (.tmp 4) _ ?_);refine ai rfl _ _ _ rfl w.heap.size 55 #[.int .i64 0,.int .i64 0,.int .i64 0,.int .i64 0,.bool false,.int .u64 0] #[.int .i64 K,.int .i64 O,.int .i64 L,.int .i64 P,.bool M,.int .u64 (N:Int)] (by rfl) (by rfl) h.out rfl t (nO _ _ _ _ _ _) ?_;intro w3 e d;have o:=y5 e;have j:=y5 d;clear e d))
 exact kqq (v:=.tuple #[.agg #[.int .i64 K,.int .i64 O,.int .i64 L,.int .i64 P,.bool M,.int .u64 (N:Int)],.int .i64 0]) (aX results280 _ o.out rfl rfl) rfl ⟨rfl,j.out.below s.out (kqa _)⟩
theorem II(h:cM G a=0):cn G=0/\∃b,js (aa G) a=some b/\b.mark=true/\∃o,cI G (di G) (da G b)=some o/\cB G a=o:=by
 have c:cn G=0:=by
  unfold cM at h;split at h
  .assumption
  exact absurd h (by assumption)
 refine⟨c,?_⟩;rw[<-(gw (cE c).1).2.1];cases d:js (aS G 128) a with
 | none=>rw[(qa c d).1] at h;cases h
 | some b =>
  refine⟨b,rfl,?_⟩;cases e:b.mark
  .rw[(qw c d e).1] at h;cases h
  refine⟨rfl,?_⟩;cases f:cI G (di G) (da G b) with
  | none=>rw[(uz c d e f).1] at h;cases h
  | some o=>exact⟨o,rfl,(ym c d e f).2⟩
def obP (G:List Nat) (l:List Int) (k:Nat):List En:=(cI G (di G) (l.take k)).getD []
theorem ob_at(p:cn G=0){l:List Int}(h:cI G (di G) l=some o)(m:k<l.length){r:Nat}(n:l[k]=(r:Int)):
 (wd G r=0/\obP G l (k+1)=obP G l k)\/(wd G r≠0/\wd G r<=2048/\∃t:Nat,gq (di G) (wd G r:Int)=some (t:Int)/\t<2048/\obP G l (k+1)=obP G l k++(if wd G r=t then [] else [⟨(r:Int),t⟩])):=by
 have b:∀j,∃o,cI G (di G) (l.take j)=some o:=by
  intro j;cases c:cI G (di G) (l.take j) with
  | some o=>exact⟨o,rfl⟩
  | none =>rw[<-kz6 j l,ip,c] at h;cases h
 obtain⟨o1,g⟩:=b k;obtain⟨o2,i⟩:=b (k+1);have a:=kg m g;rw[i,n,kqf] at a;unfold obP;rw[g,i];simp only[kq9];unfold fV at a;by_cases e:wd G r=0
 .left;rw[if_pos e] at a;simp only[kzs,Option.some.injEq,kzf] at a;exact⟨e,a⟩
 right;rw[if_neg e] at a;unfold ge at a;by_cases d:2048<wd G r
 .rw[if_pos d] at a;cases a
 rw[if_neg d] at a;cases f:gq (di G) (wd G r:Int) with
 | none=>rw[f] at a;cases a
 | some t =>
  rw[f] at a;obtain⟨q,rfl,q1,q2,s,-⟩:=yr p f;refine⟨e,by omega,q,rfl,s,?_⟩;by_cases c:wd G r=q
  .rw[if_pos c];simp only[c,if_true,kzs,Option.some.injEq] at a;exact a
  rw[if_neg c];simp only[show ¬ ((wd G r:Int)=(q:Int)) by omega,if_false,kzs,Option.some.injEq,kqf] at a;exact a
theorem GE{l:List Int}(h:cI G (di G) l=some o):obP G l l.length=o:=by unfold obP;rw[kzb,h];rfl
theorem Hu(G:List Nat)(l:List Int)(k:Nat):(obP G l k).length<=k:=by
 unfold obP;cases h:cI G (di G) (l.take k) with
 | none=>simp
 | some o=>exact kzu (nw h) (kky _ _)
theorem tC(A:Option Addr)(G:List Nat)(c n:Nat)(a:Int)(w:World)(t:G.length=n)(L:cM G a=0)(C:RdW w w.heap.size A G)(y:∀x∈G,x<2^64):
 Calls prog 246 #[.slice A n c,.int .i64 a] w λe b=>ey w.heap.size 0 (cB G a) e b/\Below w.heap.size w b:=by
 obtain⟨v,b,q,u,o,j,g⟩:=II L;obtain⟨s,-,-⟩:=cE v;have hb:=dA G (ax s).1;rw[t] at hb;obtain⟨p,rfl,F,f⟩:=vv s (by rw[(gw s).2.1];exact q);rw[g];obtain⟨H,I,l⟩:=yq1 (r9 A G c n w t v C y) (λW (h:RdW W W.heap.size A G)=>xd A G c n (p:Int) b W t s q h y) (λW (h:RdW W W.heap.size A G)=>tw (G:=G) (a:=p) A c n W t (by omega) (by omega) s f h y);have J:Hid (∀k (X:k<(da G (bkAt G p)).length),∃r:Nat,(da G (bkAt G p))[k]=(r:Int)/\r<n):=y5 λk X=>by
  obtain⟨i,d,m⟩:=Gj X;exact⟨_,m,by rw[<-t];exact nk f (kzd.1 d).1⟩
 rw[<-F] at l J;have hml:=uR v;obtain⟨m,hm⟩:=xq ((di G).length);obtain⟨Ki,N,E,Q⟩:=yq2 (λB d a W (h:RdM W W.heap.size B (di G))=>Gg B (di G) d m a W hm (by omega) h) (λk (X:k<(da G b).length) (r:Nat) (C:(da G b)[k]=(r:Int))=>ob_at v j X C) (GE j) (Hu G (da G b));have T:Hid (obP G (da G b) 0=[]):=y5 (by simp[obP,cI]);have U:(da G b).length<=8:=by rw[F];exact kzu (lv _ _ _) (ud G p)
 clear j;generalize da G b=R at l J N E Q T U;obtain⟨z,K⟩:=xq R.length;rw[K] at U;have S:=y5 K;have Kk:Hid (∀W r,r<n->RdW W W.heap.size A G->∃b D,A=some ⟨b,D,none⟩/\b<W.heap.size/\W.cell? ⟨b,D+r,none⟩=some (.int .u64 (wd G r:Int))):=y5 λW r hr2 h=>by
  obtain⟨b,D,e,d,j⟩:=RdW.at_ h (show r<G.length by omega);rw[<-bY] at j;exact⟨b,D,e,d,j⟩
 have HR:=y5 C;clear C y s t L v q g f;obtain⟨xa,xs,xk,xt,xm,xn⟩:=b;dsimp only at u;subst u;unfold sF at I l;dsimp only at I l;clear F;unfold MvO at H;rw[hm] at H;rw[K] at l;obtain⟨i0,h,d,f,g⟩:=kzh bE;obtain⟨HI,Kl,Km,Kn⟩:=yq2 h d f g;clear h d f g;go_enter func246,ntmps246;go_wp2_with fail;refine H.out.mono ?_;rintro e w1 ⟨⟨BM,dM,rfl,d⟩,f⟩;have P:=y5 f;have Kf:=yq9 HR f;have Ka:=y5 (show RdM w1 w1.heap.size BM (di G) from Rd.of_own d);clear f d;go_wp2_with fail;refine (I.out w1 Kf.out).mono ?_;rintro e w2 ⟨rfl,f⟩;have g:=P.out.trans (f.mono P.out.size);have s:=y5 (g.alloc g.size (.cells #[.int .i64 xa,.int .i64 xs,.int .i64 xk,.int .i64 xt,.bool true,.int .u64 (xn:Int)] 55));obtain⟨Kg,Kb⟩:=yq0 (yq8 HR s) (Rd.more (Rd.alloc (Ka.out.up f f.size) (kqa _) (.cells #[.int .i64 xa,.int .i64 xs,.int .i64 xk,.int .i64 xt,.bool true,.int .u64 (xn:Int)] 55)) (show w2.heap.size<=(w2.alloc (.cells #[.int .i64 xa,.int .i64 xs,.int .i64 xk,.int .i64 xt,.bool true,.int .u64 (xn:Int)] 55)).heap.size by simp));clear f g;go_wp2_with fail;refine (l.out _ Kg.out).mono ?_;rintro e M ⟨⟨A3,c3,rfl,f⟩,g⟩
 have Kh:=y5 (show RdI M M.heap.size A3 R from Rd.of_own f);have j:=yq7 s g;obtain⟨Kc,Kj⟩:=yq0 (Rd.up Kb.out g g.size) (yq8 HR j);have hz3:=j.out.size;clear f g;go_wp2_with fail;go_loopw [10,11] (λg f wr=>∃k:Nat,k<=z/\f=.int .i64 k/\wr.ownsRow M.heap.size 89 2 g (obP G R k).length ((obP G R k).flatMap En.cells)/\Below M.heap.size M wr) (λ_ i _=>z-(intOf i).toNat)
 case atStart=>exact⟨0,kqv _,rfl,by rw[T.out];exact kq3 _ _ _ _,kqe _ _⟩
 obtain⟨k,X,rfl,f,F⟩:=hrel;have Z:=F.size;have hkl:=Q.out k;by_cases W:k<z
 .have L:k<R.length:=by rw[S.out];exact W
  obtain⟨bR,oR,rfl,hbR,q0⟩:=RdI.at_ (show RdI wr M.heap.size A3 R from Rd.below Kh.out F) L;obtain⟨r,C,Ko⟩:=J.out k L;have V:=N.out k L r C;rw[C] at q0;obtain⟨bA,oA,g,hbA,v0⟩:=Kk.out wr r Ko (Kj.out.up F Z);subst g;obtain⟨v,g⟩:=xq (wd G r);rw[g] at v0 V;have hri:(r:Int)<(n:Int):=(by omega);have hr0:(0:Int)<=(r:Int):=(by omega);have hki:(k:Int)<(z:Int):=(by omega);have hk0:(0:Int)<=(k:Int):=(by omega);obtain⟨Kd,q,O⟩:=yq1 (Rd.up Kc.out F Z) f F;clear C g f F;rcases V with⟨rfl,g⟩|⟨Kp,hv2,t,ht,ht2,g⟩
  .have i:=y5 g;clear g;go_wp2;go_roundw;exact⟨k+1,by omega,by go_num,by rw[i.out];exact q.out,O.out⟩;simp[intOf];omega
  have e0:((v:Int)==0)=false:=(by rw[kqc];omega);have e0n:(v==0)=false:=by rw[kqc];exact Kp
  have hvl:decide ((v:Int)<4294967296)=true:=(by rw[kze];omega);have hvln:decide (v<4294967296)=true:=(by rw[kze];omega);have hwv:IntKind.i64.wrap (v:Int)=(v:Int):=kqo _ (by omega);have Y:=y5 (Ki.out BM dM (v:Int) wr Kd.out);rw[ht] at Y;simp only[kq9,kxv] at Y;by_cases B:v=t
  .rw[if_pos B,kzf] at g;subst B;have i:=y5 g;have Eq:((v:Int) != (v:Int))=false:=by rw[kqt]
   clear g ht;go_wp2_with fail;refine Y.out.mono ?_;rintro e w5 ⟨rfl,h⟩;obtain⟨u,y⟩:=yq0 (O.out.trans (h.mono Z)) (ag q.out h (kqa _));clear h v0 q0;go_wp2;go_roundw;exact⟨k+1,by omega,by go_num,by rw[i.out];exact y.out,u.out⟩;simp[intOf];omega
  rw[if_neg B] at g;have Eq:((t:Int) != (v:Int))=true:=(by rw[kqx];omega);have hnn:(t != v)=true:=(by rw[kqx];omega);have i:=y5 (show (obP G R (k+1)).flatMap En.cells=(obP G R k).flatMap En.cells++[.int .i64 (r:Int),.int .u64 (t:Int)]/\(obP G R (k+1)).length=(obP G R k).length+1 by rw[g,kzv,kqu];exact⟨rfl,rfl⟩);clear g ht B;go_wp2_with fail;refine Y.out.mono ?_;rintro e w5 ⟨rfl,h⟩;have g:bR<wr.heap.size:=(by omega);have q5:=(h.cell (p:=⟨bR,oR+k,none⟩) g).trans q0;obtain⟨u,y⟩:=yq0 (O.out.trans (h.mono Z)) (ag q.out h (kqa _));have Kq:=u.out.size;clear h v0 q0;go_wp2_with (at_builtin;refine kq7 _ rfl _ _ 26 rfl M.heap.size 89 i0 _ 2 16 underlying26 HI.out Kl.out Km.out Kn.out rfl (by decide) _ _ _ rfl (y.out.alloc _) ⟨_,0,none⟩ 1 1 [.int .i64 (r:Int),.int .u64 (t:Int)] rfl rfl (bc _ _ _) (by simp[Value.oneCell']) (by unfold maxLen;omega) (by omega) (by simp;omega) ?_;intro v1 w6 d B _;have Eq:=y5 (ay u.out Kq y.out B);have Ke:=y5 d;clear d B);go_roundw;exact⟨k+1,by omega,by go_num,by rw[i.out.1,i.out.2];exact Ke.out,Eq.out⟩;simp[intOf];omega
 have e:k=z:=(by omega);have g:obP G R k=o:=by rw[e,<-S.out];exact E.out
 rw[g] at f;obtain⟨h,i,rfl⟩:=aw f;obtain⟨q,O⟩:=yq0 f F;have hkd:decide ((k:Int)<(z:Int))=false:=(by rw[kqb];omega);have hkn:decide (k<z)=false:=by rw[kqb];exact W
 clear e g f F;go_wp2;go_ret2;exact⟨⟨h,i,rfl,ab q.out j.out.size⟩,j.out.trans (O.out.mono j.out.size)⟩
theorem Eg(A:Option Addr)(G:List Nat)(c n:Nat)(q t:Int)(w:World)(d:G.length=n)(h:dh G=0)(i:RdW w w.heap.size A G)(g:∀x∈G,x<2^64):
 Calls prog 193 #[.slice A n c,.agg #[.int .i64 q,.int .i64 0,.int .i64 t]] w λe a=>ey w.heap.size 0 (⟨17,128⟩::dg G) e a/\Below w.heap.size w a:=by
 have f:=y5 (λW (a:RdW W W.heap.size A G)=>Ba A G c n W d h a g);unfold ey at f;have y:(dg G).length<=16:=by rw[<-CV h];exact AK G 16
 obtain⟨E,a⟩:=xq (dg G);rw[a] at f y |-;have j:=Bx.new w 107 #[.int .i64 q,.int .i64 0,.int .i64 t];have b:=y5 ((kqe w.heap.size w).alloc (kqa _) (.cells #[.int .i64 q,.int .i64 0,.int .i64 t] 107));obtain⟨l,XB⟩:=yq0 (i.up b.out b.out.size) j;clear j i g d h a;obtain⟨z,h,a,d,g⟩:=kzh bE;obtain⟨s,m,o,p⟩:=yq2 h a d g;clear h a d g;go_enter func193,ntmps193;go_wp2_with fail;refine (f.out _ l.out).mono ?_;rintro e g ⟨⟨r,u,rfl,a⟩,h⟩;have d:=yq7 b h;have k:=y5 (Rd.more (Rd.of_own a) (kqa _));clear a h
 go_wp2_with (at_builtin;refine aW _ (by rfl) _ _ 26 rfl g.heap.size 89 z _ 2 16 underlying26 s.out m.out o.out p.out rfl (by decide) (.slice (some ⟨g.heap.size,0,none⟩) 1 1) 1 [.int .i64 17,.int .u64 128] (by rfl) (a8 (n:=1) (sz:=2) g 89 #[.int .i64 17,.int .u64 128] (kqa _) (by rfl) (by unfold maxLen;omega)) g.heap.size (r) (E.length) u (E.flatMap En.cells) (by rfl) (by rw[bU En.cells 2 En.len]) (Rd.alloc (k.out) (kqa _) _) (db En.one _) (by unfold maxLen;omega) (by omega) (by simp) ?_;intro v1 wa a i;have h:=bi ((kqe g.heap.size g).alloc (kqa _) _) (by simp) (a8 (n:=1) (sz:=2) g 89 #[.int .i64 17,.int .u64 128] (kqa _) (by rfl) (by unfold maxLen;omega)) i;have e:=y5 a;have j:=y5 h;clear a h i);have a:=ab e.out d.out.size;rw[kjj] at a;obtain⟨h,v,rfl⟩:=aw a;have i:=y5 a;clear a;go_ret2;exact⟨⟨h,v,rfl,i.out⟩,d.out.trans (j.out.mono d.out.size)⟩
def wnP (G:List Nat) (k:Nat):List En:=aZ ((aa G).take k) 128
theorem wn_at(l:ao G=0)(c:k<(aa G).length):∃a V:Nat,(aa G)[k].at_=(a:Int)/\a+1<G.length/\(aa G)[k].next=wd G (a+1)/\V<=2048/\(aQ (aa G) 128)[k]? = some (V:Int)/\wnP G (k+1)=wnP G k++(if (aa G)[k].kind=1/\wd G (a+1)≠V then [⟨(a:Int)+1,V⟩] else []):=by
 obtain⟨-,-,h,d⟩:=gw l;obtain⟨e,f,g,hs3⟩:=dx h;obtain⟨a,b,h2,h3,h4,m,-⟩:=bN _ _ d (by omega) k c;have i:=aC m;have he:=iw e (k:=k) (by omega) f g;have j:=kz (s:=128) c;have n:=pE c 128;rw[bG _ _ c] at j;refine⟨a,bK (aa G)[k] (aN ((aa G).take k) 128),by rw[b];rfl,by unfold szAt at i;omega,by rw[b];rfl,by unfold bK;split<;>omega,?_,?_⟩
 .rw[j];unfold bK;split<;>simp<;>omega
 unfold wnP;rw[n,show (aa G)[k].next=wd G (a+1) by rw[b];rfl,show (aa G)[k].at_=(a:Int) by rw[b];rfl]
theorem Hm(a:ao G=0):wnP G (aa G).length=aI G:=by unfold wnP aI;rw[if_pos a,kzb]
theorem GJ(G:List Nat)(k:Nat):(wnP G k).length<=k:=kzu (kW _ _) (kky _ _)
theorem wR(A:Option Addr)(G:List Nat)(c n:Nat)(w:World)(g:G.length=n)(a:ao G=0)(s:RdW w w.heap.size A G)(q:∀x∈G,x<2^64):
 Calls prog 192 #[.slice A n c] w λe b=>ey w.heap.size 0 (aI G) e b/\Below w.heap.size w b:=by
 have hb:=dA G (ax a).1;rw[g] at hb;obtain⟨-,-,o,-⟩:=gw a;obtain⟨i,j,l,u⟩:=dx o;obtain⟨Ka,L⟩:=yq0 (fR A G c n w g a s q) (λW (h:RdW W W.heap.size A G)=>i8 A G c n W g a h q);obtain⟨m,f⟩:=xq ((aa G).length);have hml:m<=1024:=by rw[<-f];exact dI G
 obtain⟨Kg,Kn,M,Kc⟩:=yq2 (λLB d W (h:RdB W W.heap.size LB (aa G))=>zY LB (aa G) d m 128 W f (by omega) (λk hk=>by have:=iw i hk j l;omega) h) (λk (hk:k<(aa G).length)=>wn_at a hk) (Hm a) (GJ G);have Kk:Hid (wnP G 0=[]):=y5 (by simp[wnP,aZ]);have Km:Hid (∀W r,r<n->RdW W W.heap.size A G->∃b d,A=some ⟨b,d,none⟩/\b<W.heap.size/\W.cell? ⟨b,d+r,none⟩=some (.int .u64 (wd G r:Int))):=y5 λW r hr2 h=>by
  obtain⟨b,d,e,t,v⟩:=RdW.at_ h (show r<G.length by omega);rw[<-bY] at v;exact⟨b,d,e,t,v⟩
 rw[f] at L;obtain⟨O,Kd,HR⟩:=yq1 f g s;clear s q a f g o i j l u;obtain⟨i0,g,a,f,D⟩:=kzh bE;obtain⟨HI,Ko,Kp,Kq⟩:=yq2 g a f D;clear g a f D;go_enter func192,ntmps192;go_wp2_with fail;refine Ka.out.mono ?_;rintro e w1 ⟨rfl,a⟩;have I:=y5 a;have P:=yq9 HR a;clear a;go_wp2_with fail;refine (L.out w1 P.out).mono ?_;rintro e w2 ⟨⟨LB,dL,rfl,f,-⟩,a⟩;have J:=yq7 I a;have Kh:=yq9 P a;have N:=y5 f;clear a f;go_wp2_with fail;refine (Kg.out LB dL w2 N.out).mono ?_;rintro e z ⟨⟨BP,dP,rfl,f⟩,a⟩;have B:=yq7 J a;have Ki:=yq9 Kh a;have Kb:=yq9 N a;have Kf:=y5 (show RdI z z.heap.size BP (aQ (aa G) 128) from Rd.of_own f);clear a f;go_wp2_with fail;go_loopw [9,10] (λf a wr=>∃k:Nat,k<=m/\a=.int .i64 k/\wr.ownsRow z.heap.size 89 2 f (wnP G k).length ((wnP G k).flatMap En.cells)/\Below z.heap.size z wr) (λ_ i _=>m-(intOf i).toNat)
 case atStart=>exact⟨0,kqv _,rfl,by rw[Kk.out];exact kq3 _ _ _ _,kqe _ _⟩
 obtain⟨k,hk,rfl,g,y⟩:=hrel;have hz:=y.size;have hkl:=Kc.out k;by_cases Eq:k<m
 .have Z:k<(aa G).length:=by rw[O.out];exact Eq
  obtain⟨b,d,rfl,t,q0,C,q2,H,Q,R⟩:=RdB.at_ (Rd.below Kb.out y) Z;obtain⟨a,V,o,e2,s,e4,q,f⟩:=Kn.out k Z;rw[Kd.out] at e2;rw[o] at q0;obtain⟨bA,oA,e,hbA,v0⟩:=Km.out wr (a+1) e2 (Ki.out.up y hz);subst e;obtain⟨j,e⟩:=kzd.1 q;obtain⟨u,F,i,T,p0⟩:=RdI.at_ (show RdI wr z.heap.size BP (aQ (aa G) 128) from Rd.below Kf.out y) j;subst i;rw[e] at p0;obtain⟨v,l⟩:=xq (wd G (a+1));obtain⟨K,r⟩:=xq ((aa G)[k].kind);rw[l,r] at f;rw[l] at v0;rw[r] at q2;have hk0:(0:Int)<=(k:Int):=(by omega);have hk1:(k:Int)<(m:Int):=(by omega);have hwa:IntKind.i64.wrap ((a:Int)+1)=(a:Int)+1:=kqo _ (by omega);have hwu:IntKind.u64.wrap (V:Int)=(V:Int):=kzi _ (by omega);have ha0:(0:Int)<=(a:Int)+1:=(by omega);have ha1:(a:Int)+1<(n:Int):=(by omega);have htn:((a:Int)+1).toNat=a+1:=(by omega);have hbW:b<wr.heap.size:=(by omega);have hbPW:u<wr.heap.size:=(by omega);obtain⟨i,E⟩:=yq0 g y;clear g y l r o s q e j C H Q R;by_cases s:K=1
  .subst s;by_cases e:v=V
   .subst e;rw[if_neg (by simp),kzf] at f;have o:=y5 f;have j:((v:Int) != (v:Int))=false:=by rw[kqt]
    clear f;go_wp2_with fail;go_quiet (fail);go_wp2;go_roundw;exact⟨k+1,by omega,by go_num,by rw[o.out];exact⟨i.out.1,i.out.2⟩,cF E.out nq⟩;simp[intOf];omega
   rw[if_pos ⟨rfl,e⟩] at f;have o:=y5 (show (wnP G (k+1)).flatMap En.cells=(wnP G k).flatMap En.cells++[.int .i64 ((a:Int)+1),.int .u64 (V:Int)]/\(wnP G (k+1)).length=(wnP G k).length+1 by rw[f,kzv,kqu];exact⟨rfl,rfl⟩);have j:((v:Int) != (V:Int))=true:=(by rw[kqx];omega);have hnn:(v != V)=true:=by rw[kqx];exact e
   have Kj:=y5 (And.intro q0 p0);clear f e;go_wp2_with fail;go_quiet (fail);go_wp2_with fail;obtain⟨H,cv,rfl⟩:=aw i.out;have D:=E.out.size;have j:=y5 (cF E.out nq).drew;have C:=y5 (show (wr.drewN nq).drew.ownsRow z.heap.size 89 2 (.slice H (wnP G k).length cv) (wnP G k).length ((wnP G k).flatMap En.cells) from ⟨i.out.1,i.out.2⟩);refine kz4 (S:=λX:World=>X.cell? ⟨b,d+k*6,none⟩=some (.int .i64 (a:Int))/\X.cell? ⟨u,F+k,none⟩=some (.int .i64 (V:Int))) (by kernel_rfl) Kj.out (λe=>?_);show wpAnyH _ _ _ _ _ 16 _ _ _;refine tj 0 (.slice H (wnP G k).length cv) ?_;refine tj 1 (.slice (some ⟨b,d,none⟩) m dL) ?_;refine tj 2 (.int .i64 (k:Int)) ?_;refine tj 3 (.pointer (some ⟨b,d+k*6,none⟩)) ?_;refine tj 4 (.pointer (some ⟨b,d+k*6,none⟩)) ?_;refine tj 5 (.int .i64 (a:Int)) ?_;refine tj 6 (.int .i64 ((a:Int)+1)) ?_;refine tj 7 (.slice (some ⟨u,F,none⟩) m dP) ?_;refine tj 8 (.int .i64 (k:Int)) ?_;refine tj 9 (.pointer (some ⟨u,F+k,none⟩)) ?_;refine tj 10 (.int .i64 (V:Int)) ?_;refine tj 11 (.int .u64 (V:Int)) ?_;refine tj 12 (.agg #[.int .i64 ((a:Int)+1),.int .u64 (V:Int)]) ?_;dsimp only[Act.put,kqr,kqn,kql,kqd,kqk,kqj];obtain⟨W,l⟩:=xq ((wr.drewN nq).drew);rw[l] at j C e |-;have Kr:=j.out.size;have X:b<W.heap.size:=(by omega);have U:u<W.heap.size:=(by omega);clear l;refine kzr (rs:=[13]) (by kernel_rfl) (by simp) ?_;refine AllReadyH.cons rfl (λK r=>?_) AllReadyH.nil;go_simp;refine r.out _ _ ⟨(kzc W _ ⟨b,d+k*6,none⟩ X).trans e.1,(kzc W _ ⟨u,F+k,none⟩ U).trans e.2⟩ (λKl=>?_);clear r K;refine kzr (rs:=[14]) (by kernel_rfl) (by simp) ?_;refine AllReadyH.cons rfl (λK r=>?_) AllReadyH.nil;refine dD _ _ _ 26 (by rfl) z.heap.size 89 i0 _ 2 16 underlying26 HI.out Ko.out Kp.out Kq.out rfl (by decide) (.slice H (wnP G k).length cv) (wnP G k).length ((wnP G k).flatMap En.cells) (by rfl) (C.out.alloc _) (W.alloc (.cells #[.int .i64 ((a:Int)+1),.int .u64 (V:Int)] 89)).heap.size (some ⟨W.heap.size,0,none⟩) 1 1 [.int .i64 ((a:Int)+1),.int .u64 (V:Int)] (by rfl) (by rfl) (Rd.of_own (a8 (n:=1) (sz:=2) W 89 #[.int .i64 ((a:Int)+1),.int .u64 (V:Int)] (kqa _) (by rfl) (by unfold maxLen;omega))) (by simp[Value.oneCell']) (by unfold maxLen;omega) (by omega) (by rw[kqm];omega) ?_;intro v1 w8 l Y;have q:=bi (j.out.alloc Kr _) (by rw[kqm];omega) (C.out.alloc _) Y;obtain⟨Q,R⟩:=yq0 (And.intro ((q.cell (p:=⟨b,d+k*6,none⟩) t)) ((q.cell (p:=⟨u,F+k,none⟩) T))) (And.intro ((j.out.cell (p:=⟨b,d+k*6,none⟩) t)) ((j.out.cell (p:=⟨u,F+k,none⟩) T)))
   refine r.out _ _ ⟨Q.out.1.trans (R.out.1.symm.trans e.1),Q.out.2.trans (R.out.2.symm.trans e.2)⟩ (λHS4=>?_);have e:=y5 q;rw[<-o.out.1,<-o.out.2] at l;have Ke:=y5 l;clear r K Kl q l Y;simp only[Act.put,kqd,kqk,kqj];refine tj 15 (v1) ?_;dsimp only[Act.put,kqr,kqn,kql,kqd,kqk,kqj];refine kx0 (by kernel_rfl) ?_ _;go_simp;go_wp2;go_roundw;exact⟨k+1,by omega,by go_num,Ke.out,e.out⟩;simp[intOf];omega
  rw[if_neg (λh=>s h.1),kzf] at f;have o:=y5 f;have hk2:(K==1)=false:=by rw[kqc];exact s
  clear f s;go_wp2_with fail;go_quiet (fail);go_wp2;go_roundw;exact⟨k+1,by omega,by go_num,by rw[o.out];exact⟨i.out.1,i.out.2⟩,cF E.out nq⟩;simp[intOf];omega
 have a:k=m:=(by omega);have e:wnP G k=aI G:=by rw[a,<-O.out];exact M.out
 rw[e] at g;obtain⟨H,f,rfl⟩:=aw g;obtain⟨i,E⟩:=yq0 g y;have hkd:decide ((k:Int)<(m:Int))=false:=(by rw[kqb];omega);have hkn:decide (k<m)=false:=by rw[kqb];exact Eq
 clear a e g y;go_wp2;go_ret2;exact⟨⟨H,f,rfl,ab i.out B.out.size⟩,B.out.trans (E.out.mono B.out.size)⟩
end Go.Proofs.YtpcajamacpbjcaaGreat
