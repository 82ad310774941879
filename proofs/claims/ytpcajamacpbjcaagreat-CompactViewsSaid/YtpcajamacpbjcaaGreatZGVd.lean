/- References: phases that are told. -/
import Derived.Test.YtpcajamacpbjcaaGreatZGVa
import Derived.Test.YtpcajamacpbjcaaGreatZKCursor
import Derived.Test.YtpcajamacpbjcaaGreatZGG
import Derived.Test.YtpcajamacpbjcaaGreatZGVb
import Derived.Test.YtpcajamacpbjcaaGreatZKFix
import Derived.Test.YtpcajamacpbjcaaGreatZKRef15
import Derived.Test.YtpcajamacpbjcaaGreatZKStg1
import Derived.Test.YtpcajamacpbjcaaGreatZKStg2
import Derived.Test.YtpcajamacpbjcaaGreatZKRefs
import Derived.Test.YtpcajamacpbjcaaGreatZKRs
import Derived.Test.YtpcajamacpbjcaaGreatZGVc
set_option maxHeartbeats 16000000
set_option maxRecDepth 100000
set_option linter.all false
namespace Go.Proofs.YtpcajamacpbjcaaGreat
open Lib (hid)
open Go.RowKit
variable {ws:List Nat}{k:Nat}
open Go.Proofs.Tryz
theorem lg(n:Nat)(w:World)(h:kU n=true):Calls prog 281 #[.int .i64 (n:Int)] w λe w'=>e=.returned (.bool true)/\w=w':=by
 obtain⟨c,b,a⟩:=(aQ n).1 h;have d1:decide ((128:Int)<=(n:Int))=true:=by rw[kql];omega
 have d2:decide ((n:Int)<=2048)=true:=by rw[kql];omega
 have d1n:decide (128<=n)=true:=by rw[kql];omega
 have d2n:decide (n<=2048)=true:=by rw[kql];omega
 have e1:Int.tmod (n:Int) 2=0:=by rw[kkd (by omega)];omega
 clear h c b a;go_enter func281,ntmps281;go_wp2;go_ret;exact⟨rfl,rfl⟩
theorem xN(p f t:Nat)(w:World)(h:wB p f t=true):Calls prog 248 #[phV p f t] w λe w'=>e=.returned (.bool true)/\Below w.heap.size w w':=by
 unfold phV;have b:=hid ((kqk w.heap.size w).alloc (kqb _) (.cells #[.int .i64 (p:Int),.int .i64 (f:Int),.int .i64 (t:Int)] 107));rcases (b8 p f t).1 h with⟨rfl,a,g,k⟩|⟨rfl,rfl,a⟩|⟨a,rfl,rfl⟩
 .have d:=hid (λW=>lg f W a);have j:=hid (λW=>lg t W g);have d1:decide ((t:Int)<=(f:Int))=true:=by rw[kql];omega
  have d1n:decide (t<=f)=true:=by rw[kql];omega
  clear h a g k;(try simp only[kqy] at b |-);go_enter func248,ntmps248;go_wp2_with fail;refine (d.out _).mono ?_;rintro e i ⟨rfl,rfl⟩;go_wp2_with fail;refine (j.out _).mono ?_;rintro e i ⟨rfl,rfl⟩;go_wp2;go_ret;exact⟨rfl,b.out⟩
 .by_cases c:f=0
  .subst c;clear h a;(try simp only[kqy] at b |-);go_enter func248,ntmps248;go_wp2;go_ret;exact⟨rfl,b.out⟩
  have ef:((f:Int)==0)=false:=by rw[kqi];omega
  have efn:(f==0)=false:=by rw[kqi];omega
  have d:=hid (λW=>lg f W (by rcases a with a|a;exact absurd a c;exact a));clear h a c;(try simp only[kqy] at b |-);go_enter func248,ntmps248;go_wp2_with fail;refine (d.out _).mono ?_;rintro e i ⟨rfl,rfl⟩;go_wp2;go_ret;exact⟨rfl,b.out⟩
 clear h;obtain rfl|rfl|rfl:p=0\/p=1\/p=2:=by omega
 all_goals
  clear a;(try simp only[kqy] at b |-);go_enter func248,ntmps248;go_wp2;go_ret;exact⟨rfl,b.out⟩
theorem fJ:(prog.info? 107).map (·.size)=some 3:=by kernel_rfl
theorem EW(h:cH ws=0)(h1:16<=k)(h2:k<24):wd ws k<=2048/\(18<k->wd ws k=0):=by
 obtain⟨b,a,-⟩:=cK h;obtain⟨⟨a0,a1,a2⟩,a3,a4,a5,a6,a7⟩:=(aY ws).1 a;have hb:=de ws b;obtain rfl|rfl|rfl|rfl|rfl|rfl|rfl|rfl:k=16\/k=17\/k=18\/k=19\/k=20\/k=21\/k=22\/k=23:=by omega
 all_goals exact⟨by omega,by omega⟩
theorem AD(A:Option Addr)(ws:List Nat)(c n:Nat)(w:World)(hn:ws.length=n)(h:cH ws=0)(hr:RdW w w.heap.size A ws):
 Calls prog 196 #[.slice A n c] w λe w'=>e=.returned (.tuple #[phV (wd ws 16) (wd ws 17) (wd ws 18),.bool true])/\Below w.heap.size w w':=by
 obtain⟨h1,h2,h3⟩:=cK h;obtain⟨⟨a0,a1,a2⟩,-⟩:=(aY ws).1 h2;have hb:=de ws h1;rw[hn] at hb a0 a1 a2;have Fv:=hid (λk (h1:16<=k) (h2:k<24)=>EW h h1 h2);have HV:=hid (λW=>xN (wd ws 16) (wd ws 17) (wd ws 18) W h3);have s:=hid (show RdW (w.alloc (.cells #[.int .i64 0,.int .i64 0,.int .i64 0] 107)) (w.alloc (.cells #[.int .i64 0,.int .i64 0,.int .i64 0] 107)).heap.size A ws from (hr.alloc (kqb _) _).more (by simp));have u:Hid (∀W r,r<n->RdW W W.heap.size A ws->∃b B,A=some ⟨b,B,none⟩/\b<W.heap.size/\W.cell? ⟨b,B+r,none⟩=some (.int .u64 (wd ws r:Int))):=hid λW r hr2 h=>by
  obtain⟨b,B,e,Ft,hc⟩:=RdW.at_ h (show r<ws.length by omega);rw[<-bI] at hc;exact⟨b,B,e,Ft,hc⟩
 have N:=hid (Bx.new w 107 #[.int .i64 0,.int .i64 0,.int .i64 0]);have J:=hid ((kqk w.heap.size w).alloc (kqb _) (.cells #[.int .i64 0,.int .i64 0,.int .i64 0] 107));obtain⟨p,hp⟩:=xq (wd ws 16);obtain⟨f,hf⟩:=xq (wd ws 17);obtain⟨t,ht⟩:=xq (wd ws 18);rw[hp,hf,ht] at HV |-;rw[hp] at a0;rw[hf] at a1;rw[ht] at a2;have M:=hid (And.intro hp (And.intro hf ht));unfold phV at HV |-;clear hr h h1 h2 h3 hn hp hf ht;go_enter func196,ntmps196;go_wp2_with fail;obtain⟨W0,Z⟩:=xq (w.alloc (.cells #[.int .i64 0,.int .i64 0,.int .i64 0] 107));rw[Z] at s N J |-;clear Z;go_loopw [4] (λvi wr=>∃k:Nat,16<=k/\k<=24/\vi=.int .i64 k/\wr=W0) (λi _=>24-(intOf i).toNat)
 case atStart=>exact⟨16,kqb _,by omega,rfl,rfl⟩
 obtain⟨k,Fu,hk2,rfl,rfl⟩:=hrel;by_cases U:k<24
 .obtain ⟨l1,l2⟩:=Fv.out k Fu U;obtain⟨d,g,rfl,x,Q⟩:=u.out wr k (by omega) s.out;obtain⟨v,hv⟩:=xq (wd ws k);rw[hv] at l1 l2 Q;have hk0:(0:Int)<=(k:Int):=by omega
  have Fr:(k:Int)<(n:Int):=by omega
  have hki:(k:Int)<24:=by omega
  have d1:decide ((2048:Int)<(v:Int))=false:=by rw[kqc];omega
  have d1n:decide (2048<v)=false:=by rw[kqc];omega
  by_cases Fp:18<k
  .obtain rfl:=l2 Fp;have d2:decide ((18:Int)<(k:Int))=true:=by rw[kql];omega
   have d2n:decide (18<k)=true:=by rw[kql];omega
   clear hv l1 l2;go_wp2;go_roundw
   case rel=>exact⟨k+1,by omega,by omega,by go_num,trivial⟩
   case measure=>simp[intOf];omega
  have d2:decide ((18:Int)<(k:Int))=false:=by rw[kqc];omega
  have d2n:decide (18<k)=false:=by rw[kqc];omega
  clear hv l1 l2;go_wp2;go_roundw
  case rel=>exact⟨k+1,by omega,by omega,by go_num,trivial⟩
  case measure=>simp[intOf];omega
 have Fo:k=24:=by omega
 obtain⟨d,g,rfl,x,Q⟩:=u.out wr 16 (by omega) s.out;obtain⟨bA1,oA1,e1,-,v1⟩:=u.out wr 17 (by omega) s.out;obtain⟨bA2,oA2,e2,-,v2⟩:=u.out wr 18 (by omega) s.out;cases e1;cases e2;rw[M.out.1] at Q;rw[M.out.2.1] at v1;rw[M.out.2.2] at v2;have w1:IntKind.i64.wrap (p:Int)=(p:Int):=kqo _ (by omega);have w2:IntKind.i64.wrap (f:Int)=(f:Int):=kqo _ (by omega);have w3:IntKind.i64.wrap (t:Int)=(t:Int):=kqo _ (by omega);have hkd:decide ((k:Int)<24)=false:=by rw[kqc];omega
 have Fr:decide (k<24)=false:=by rw[kqc];exact U
 have n16:(16:Int)<(n:Int):=by omega
 have n17:(17:Int)<(n:Int):=by omega
 have n18:(18:Int)<(n:Int):=by omega
 have d3:decide ((f:Int)<=(n:Int))=true:=by rw[kql];omega
 have d3n:decide (f<=n)=true:=by rw[kql];omega
 clear Fo;have y:=hid (And.intro Q (And.intro v1 v2));clear Q v1 v2;go_wp2_with fail;have z:=hid ((kqk wr.heap.size wr).drew);have BXD:=hid (N.out.up z.out N.out.lt);obtain⟨W,hW⟩:=xq wr.drew;refine kz9 (S:=λX:World=>X.cell? ⟨d,g+16,none⟩=some (.int .u64 (p:Int))/\X.cell? ⟨d,g+17,none⟩=some (.int .u64 (f:Int))/\X.cell? ⟨d,g+18,none⟩=some (.int .u64 (t:Int))) (by kernel_rfl) y.out (λa=>?_);rw[hW] at z BXD a |-;have H:=z.out.size;have F:d<W.heap.size:=by omega
 clear hW;show wpAnyH _ _ _ _ _ 15 #[false,false,false,false,false,false,false,false,false,false,false,false,false,false,false] _ _;refine tj 0 (.slice (some ⟨d,g,none⟩) n c) ?_;dsimp only[Act.put,kqh,kqe,kqd,kqa,kqg,kqf];refine tj 1 (.pointer (some ⟨d,g+16,none⟩)) ?_;dsimp only[Act.put,kqh,kqe,kqd,kqa,kqg,kqf];refine tj 2 (.int .u64 (p:Int)) ?_;dsimp only[Act.put,kqh,kqe,kqd,kqa,kqg,kqf];refine tj 3 (.int .i64 (p:Int)) ?_;dsimp only[Act.put,kqh,kqe,kqd,kqa,kqg,kqf];refine tj 4 (.slice (some ⟨d,g,none⟩) n c) ?_;dsimp only[Act.put,kqh,kqe,kqd,kqa,kqg,kqf];refine tj 5 (.pointer (some ⟨d,g+17,none⟩)) ?_;dsimp only[Act.put,kqh,kqe,kqd,kqa,kqg,kqf];refine tj 6 (.int .u64 (f:Int)) ?_;dsimp only[Act.put,kqh,kqe,kqd,kqa,kqg,kqf];refine tj 7 (.int .i64 (f:Int)) ?_;dsimp only[Act.put,kqh,kqe,kqd,kqa,kqg,kqf];refine tj 8 (.slice (some ⟨d,g,none⟩) n c) ?_;dsimp only[Act.put,kqh,kqe,kqd,kqa,kqg,kqf];refine tj 9 (.pointer (some ⟨d,g+18,none⟩)) ?_;dsimp only[Act.put,kqh,kqe,kqd,kqa,kqg,kqf];refine tj 10 (.int .u64 (t:Int)) ?_;dsimp only[Act.put,kqh,kqe,kqd,kqa,kqg,kqf];refine tj 11 (.int .i64 (t:Int)) ?_;dsimp only[Act.put,kqh,kqe,kqd,kqa,kqg,kqf];refine tj 12 (.agg #[.int .i64 (p:Int),.int .i64 (f:Int),.int .i64 (t:Int)]) ?_
 dsimp only[Act.put,kqh,kqe,kqd,kqa,kqg,kqf];refine kz4 (rs:=[13]) (by kernel_rfl) (by simp) ?_;refine AllReadyH.cons rfl (λK q=>?_) AllReadyH.nil;go_simp;refine q.out _ _ ⟨(kq8 W _ ⟨d,g+16,none⟩ F).trans a.1,(kq8 W _ ⟨d,g+17,none⟩ F).trans a.2.1,(kq8 W _ ⟨d,g+18,none⟩ F).trans a.2.2⟩ (λFq=>?_);clear q K;refine kz4 (rs:=[14]) (by kernel_rfl) (by simp) ?_;refine AllReadyH.cons rfl (λK q=>?_) AllReadyH.nil;refine lA 107 (.tmp 5) (.tmp 39) rfl W.heap.size 107 #[.int .i64 0,.int .i64 0,.int .i64 0] #[.int .i64 (p:Int),.int .i64 (f:Int),.int .i64 (t:Int)] (by rfl) (by rfl) (Bx.new W 107 #[.int .i64 0,.int .i64 0,.int .i64 0]) rfl fJ (by simp[Value.oneCell']) ?_;intro W8 Y R;have m:=hid (R.below (z.out.alloc H (.cells #[.int .i64 0,.int .i64 0,.int .i64 0] 107)) H);have c0:=(m.out.cell (p:=⟨d,g+16,none⟩) x).trans y.out.1;have c1:=(m.out.cell (p:=⟨d,g+17,none⟩) x).trans y.out.2.1;have c2:=(m.out.cell (p:=⟨d,g+18,none⟩) x).trans y.out.2.2;refine q.out _ _ ⟨c0,c1,c2⟩ (λFs=>?_);have E:=hid Y;have BX8:=hid (N.out.up m.out N.out.lt);have hgW:w.heap.size<W.heap.size:=kxi N.out.lt H
 clear q K Fq Fs a Y R c0 c1 c2;refine kjd (by kernel_rfl) ?_ _;go_wp2_with fail;have j:=hid ((kqk W8.heap.size W8).drew);have G:=hid (E.out.up j.out E.out.lt);have L:=hid (BX8.out.up j.out BX8.out.lt);have I:=hid (m.out.trans (j.out.mono m.out.size));obtain⟨W9,T⟩:=xq W8.drew;refine kz9 (S:=λX:World=>Bx X W.heap.size 107 #[.int .i64 (p:Int),.int .i64 (f:Int),.int .i64 (t:Int)]) (by kernel_rfl) E.out (λa=>?_);rw[T] at j G L I a |-;clear T;show wpAnyH _ _ _ _ _ 12 #[false,false,false,false,false,false,false,false,false,false,false,false] _ _;refine tk 0 (.agg #[.int .i64 (p:Int),.int .i64 (f:Int),.int .i64 (t:Int)]) ?_ ?_
 .intro X hX;exact ko 107 (.tmp 5) rfl W.heap.size (by rfl) 107 _ _ hX underlying107 (by rfl) fJ
 dsimp only[Act.put,kqh,kqe,kqd,kqa,kqg,kqf];refine tk 1 (.agg #[.int .i64 (p:Int),.int .i64 (f:Int),.int .i64 (t:Int)]) ?_ ?_
 .intro X hX;exact ko 107 (.tmp 5) rfl W.heap.size (by rfl) 107 _ _ hX underlying107 (by rfl) fJ
 dsimp only[Act.put,kqh,kqe,kqd,kqa,kqg,kqf];refine kz4 (rs:=[2]) (by kernel_rfl) (by simp) ?_;refine AllReadyH.cons rfl (λK q=>?_) AllReadyH.nil;go_simp;refine (HV.out W9).mono ?_;rintro e w10 ⟨rfl,l⟩;go_simp;have C:=hid (G.out.up l G.out.lt);have P:=hid (L.out.up l L.out.lt);have Eq:=hid (I.out.trans (l.mono I.out.size));refine q.out _ _ C.out (λhT=>?_);clear q K l a;refine tj 3 (.bool true) ?_;dsimp only[Act.put,kqh,kqe,kqd,kqa,kqg,kqf];refine tj 4 (.pointer (some ⟨W.heap.size,1,none⟩)) ?_;dsimp only[Act.put,kqh,kqe,kqd,kqa,kqg,kqf];refine tk 5 (.int .i64 (f:Int)) ?_ ?_
 .intro X hX;have e1:X.cell? ⟨W.heap.size,1,none⟩=some (.int .i64 (f:Int)):=hX.cell 1;go_simp
 dsimp only[Act.put,kqh,kqe,kqd,kqa,kqg,kqf];refine tj 6 (.slice (some ⟨d,g,none⟩) n c) ?_;dsimp only[Act.put,kqh,kqe,kqd,kqa,kqg,kqf];refine tj 7 (.int .i64 (n:Int)) ?_;dsimp only[Act.put,kqh,kqe,kqd,kqa,kqg,kqf];refine tj 8 (.bool true) ?_;dsimp only[Act.put,kqh,kqe,kqd,kqa,kqg,kqf];refine tj 9 (.bool true) ?_;dsimp only[Act.put,kqh,kqe,kqd,kqa,kqg,kqf];simp only[kqa,kqg,kqf];refine kz4 (rs:=[10]) (by kernel_rfl) (by simp) ?_;refine AllReadyH.cons rfl (λK q=>?_) AllReadyH.nil;refine lA 107 (.tmp 2) (.tmp 40) rfl w.heap.size 107 #[.int .i64 0,.int .i64 0,.int .i64 0] #[.int .i64 (p:Int),.int .i64 (f:Int),.int .i64 (t:Int)] (by rfl) (by rfl) P.out rfl fJ (by simp[Value.oneCell']) ?_;intro W11 D o;have V:=hid D;have O:=hid (o.below (J.out.trans (Eq.out.mono J.out.size)) (kqb _));refine q.out _ _ (o.bx C.out (by omega)) (λhT2=>?_);clear q K hT D o;refine tj 11 (.bool true) ?_;dsimp only[Act.put,kqh,kqe,kqd,kqa,kqg,kqf];refine kjd (by kernel_rfl) ?_ _;go_wp2_with fail;exact kqr (v:=.tuple #[.agg #[.int .i64 (p:Int),.int .i64 (f:Int),.int .i64 (t:Int)],.bool true]) (aR results196 _ V.out rfl rfl) rfl ⟨rfl,O.out⟩
theorem rn(A:Option Addr)(ws:List Nat)(c n f:Nat)(w:World)(hn:ws.length=n)(hs:ak (ws.length:Int)=true)(h:nn ws f=true)(hr:RdW w w.heap.size A ws)(ho:∀x∈ws,x<18446744073709551616):
 Calls prog 197 #[.slice A n c,.int .i64 (f:Int)] w λe w'=>e=.returned (.bool true)/\Below w.heap.size w w':=by
 subst hn;have hb:=de ws hs;unfold nn at h;have q:=hid (lS A ws c ws.length 128 w rfl (by omega) (by omega) (by omega) (by omega) hr ho);unfold rW nw at q;cases y:blocks ws 128 with
 | none=>rw[y] at h;cases h
 | some l =>
  rw[y] at h q;simp only[kq4,kxk] at q;dsimp only at h;have O:=hid (λ(H:∀j (g:j<l.length),l[j].at_≠(f:Int))=>show f=ws.length by
   rw[kje] at h;rcases h with h|h
   .obtain ⟨x,o,D⟩:=kxn.1 h;obtain⟨j,g,rfl⟩:=kqv o;exact absurd (by simpa using D) (H j g)
   simpa using h)
  have F:=(a9 (by omega) 128 l y (by omega) (by omega) (by omega)).1;obtain⟨m,G⟩:=xq l.length;have hml:m<=1024:=by omega
  rw[G] at q;have K:=hid G;clear hr ho h y hs G F;go_enter func197,ntmps197;go_wp2_with fail;refine q.out.mono ?_;rintro e L ⟨⟨A1,c1,rfl,s,-⟩,t⟩;have B:=hid s;have d:=hid t;clear s t;go_wp2_with fail;go_loopw [7] (λi wr=>∃k:Nat,k<=m/\i=.int .i64 k/\Hid (∀j (g:j<l.length),j<k->l[j].at_≠(f:Int))/\Below L.heap.size L wr) (λi _=>m-(intOf i).toNat)
  case atStart=>exact⟨0,kqx _,rfl,hid (λj _ h=>absurd h (by omega)),kqk _ _⟩
  obtain⟨k,hk,rfl,u,p⟩:=hrel;have hz:=p.size;by_cases r:k<m
  .have E:k<l.length:=by rw[K.out];exact r
   obtain⟨b,off,rfl,hbw,N,-⟩:=RdB.at_ (Rd.below B.out p) E;obtain⟨x,o⟩:=xq (l[k].at_);rw[o] at N;have hlm:(k:Int)<(m:Int):=by omega
   have hk0:(0:Int)<=(k:Int):=by omega
   have v:=hid p;clear p;by_cases a:x=(f:Int)
   .have J:(x==(f:Int))=true:=by rw[kqu];exact a
    clear a o;go_wp2;go_ret;exact⟨rfl,d.out.trans (v.out.mono d.out.size)⟩
   have J:(x==(f:Int))=false:=by rw[kqi];exact a
   have I:Hid (∀j (g:j<l.length),j<k+1->l[j].at_≠(f:Int)):=hid λj g hjk=>by
    by_cases C:j=k
    .subst C;rw[o];exact a
    exact u.out j g (by omega)
   clear a o;go_wp2;go_roundw
   case rel=>exact⟨k+1,by omega,by go_num,I,v.out⟩
   case measure=>simp[intOf];omega
  have z:k=m:=by omega
  have M:=O.out (λj g=>u.out j g (by have:=K.out;omega));have J:((f:Int)==(ws.length:Int))=true:=by rw[kqu];omega
  have e2:(f==ws.length)=true:=by rw[kqu];exact M
  have hkd:decide ((k:Int)<(m:Int))=false:=by rw[kqc];omega
  have hkn:decide (k<m)=false:=by rw[kqc];exact r
  have v:=hid p;clear z M p;go_wp2;go_ret;exact⟨rfl,d.out.trans (v.out.mono d.out.size)⟩
theorem kN(A:Option Addr)(ws:List Nat)(c n:Nat)(w:World)(hn:ws.length=n)(h:cF ws=0)(s:RdW w w.heap.size A ws)(ho:∀x∈ws,x<18446744073709551616):
 Calls prog 133 #[.slice A n c] w λe w'=>e=.returned (.tuple #[phV (wd ws 16) (wd ws 17) (wd ws 18),.bool true])/\Below w.heap.size w w':=by
 obtain⟨P,R⟩:=dt h;obtain⟨Q,-,-⟩:=cK P;have G:=hid (AD A ws c n (w.alloc (.cells #[.int .i64 0,.int .i64 0,.int .i64 0] 107)) hn P ((s.alloc (kqb _) _).more (by simp)));rw[kqn] at G;have q:=hid (λW (D:wd ws 16=3) (E:wd ws 17≠0) (s:RdW W W.heap.size A ws)=>rn A ws c n (wd ws 17) W hn Q (R D E) s ho);obtain⟨p,D⟩:=xq (wd ws 16);obtain⟨f,E⟩:=xq (wd ws 17);obtain⟨t,T⟩:=xq (wd ws 18);rw[D,E,T] at G |-;rw[D,E] at q;unfold phV at G |-;have V:=hid s;clear s ho h P R Q hn D E T;by_cases B:p=3/\f≠0
 .obtain ⟨F,H⟩:=B;have J:=hid (λW (s:RdW W W.heap.size A ws)=>q.out W F H s);have d1:decide ((0:Int)<(f:Int))=true:=by rw[kql];omega
  have d1n:decide (0<f)=true:=by rw[kql];omega
  subst F;clear H q;go_enter func133,ntmps133;go_wp2_with fail;refine G.out.mono ?_;rintro e y ⟨rfl,j⟩;have k:=ao j;have u:=k.size;have C:=hid (Bx.of_new j);have g:=hid (Bx.new y 107 #[.int .i64 3,.int .i64 (f:Int),.int .i64 (t:Int)]);have i:=hid (k.alloc u (.cells #[.int .i64 3,.int .i64 (f:Int),.int .i64 (t:Int)] 107));have o:=hid (C.out.alloc (.cells #[.int .i64 3,.int .i64 (f:Int),.int .i64 (t:Int)] 107));have L:=hid (V.out.up i.out i.out.size);clear j k C;go_wp2_with fail;refine (J.out _ L.out).mono ?_;rintro e w3 ⟨rfl,r⟩;have K:=hid (o.out.up r o.out.lt);have M:=hid (g.out.up r g.out.lt);have I:=hid (i.out.trans (r.mono i.out.size));clear r;go_wp2_with (first
   | ((with_reducible refine fF 107 (.tmp 4) ?_);refine kxg rfl _ _ rfl y.heap.size (by rfl) 107 #[.int .i64 3,.int .i64 (f:Int),.int .i64 (t:Int)] (0,0) _ M.out underlying107 (by rfl) fJ ?_)
   | ((with_reducible refine bq 107 (.tmp 2) _ ?_);refine ai rfl _ _ _ rfl w.heap.size 107 #[.int .i64 0,.int .i64 0,.int .i64 0] #[.int .i64 3,.int .i64 (f:Int),.int .i64 (t:Int)] (by rfl) (by rfl) K.out rfl fJ (by simp[Value.oneCell']) ?_;intro U b a;have m:=hid b;have l:=hid a;clear b a))
  exact kqr (v:=.tuple #[.agg #[.int .i64 3,.int .i64 (f:Int),.int .i64 (t:Int)],.bool true]) (aR results133 _ m.out rfl rfl) rfl ⟨rfl,l.out.below I.out (kqb _)⟩
 obtain⟨d,S⟩:∃d,((p:Int)==3)=d:=⟨_,rfl⟩;obtain⟨O,z⟩:∃d,decide ((0:Int)<(f:Int))=d:=⟨_,rfl⟩;have N:(d&&O)=false:=by rw[<-S,<-z,kjg,kqi,kqc];omega
 have hdn:(p==3)=d:=by rw[<-S,kzk,kqu,kqu];omega
 have hdn2:decide (0<f)=O:=by rw[<-z,decide_eq_decide];omega
 clear q B;go_enter func133,ntmps133;go_wp2_with fail;refine G.out.mono ?_;rintro e y ⟨rfl,j⟩;have k:=ao j;have u:=k.size;have C:=hid (Bx.of_new j);have g:=hid (Bx.new y 107 #[.int .i64 (p:Int),.int .i64 (f:Int),.int .i64 (t:Int)]);have i:=hid (k.alloc u (.cells #[.int .i64 (p:Int),.int .i64 (f:Int),.int .i64 (t:Int)] 107));have o:=hid (C.out.alloc (.cells #[.int .i64 (p:Int),.int .i64 (f:Int),.int .i64 (t:Int)] 107));clear j k C;cases d
 .go_wp2_with (first
   | ((with_reducible refine fF 107 (.tmp 4) ?_);refine kxg rfl _ _ rfl y.heap.size (by rfl) 107 #[.int .i64 (p:Int),.int .i64 (f:Int),.int .i64 (t:Int)] (0,0) _ g.out underlying107 (by rfl) fJ ?_)
   | ((with_reducible refine bq 107 (.tmp 2) _ ?_);refine ai rfl _ _ _ rfl w.heap.size 107 #[.int .i64 0,.int .i64 0,.int .i64 0] #[.int .i64 (p:Int),.int .i64 (f:Int),.int .i64 (t:Int)] (by rfl) (by rfl) o.out rfl fJ (by simp[Value.oneCell']) ?_;intro U b a;have m:=hid b;have l:=hid a;clear b a))
  exact kqr (v:=.tuple #[.agg #[.int .i64 (p:Int),.int .i64 (f:Int),.int .i64 (t:Int)],.bool true]) (aR results133 _ m.out rfl rfl) rfl ⟨rfl,l.out.below i.out (kqb _)⟩
 obtain rfl:O=false:=by simpa using N
 go_wp2_with (first
  | ((with_reducible refine fF 107 (.tmp 4) ?_);refine kxg rfl _ _ rfl y.heap.size (by rfl) 107 #[.int .i64 (p:Int),.int .i64 (f:Int),.int .i64 (t:Int)] (0,0) _ g.out underlying107 (by rfl) fJ ?_)
  | ((with_reducible refine bq 107 (.tmp 2) _ ?_);refine ai rfl _ _ _ rfl w.heap.size 107 #[.int .i64 0,.int .i64 0,.int .i64 0] #[.int .i64 (p:Int),.int .i64 (f:Int),.int .i64 (t:Int)] (by rfl) (by rfl) o.out rfl fJ (by simp[Value.oneCell']) ?_;intro U b a;have m:=hid b;have l:=hid a;clear b a))
 exact kqr (v:=.tuple #[.agg #[.int .i64 (p:Int),.int .i64 (f:Int),.int .i64 (t:Int)],.bool true]) (aR results133 _ m.out rfl rfl) rfl ⟨rfl,l.out.below i.out (kqb _)⟩
theorem Cy(A:Option Addr)(ws:List Nat)(c n:Nat)(w:World)(hn:ws.length=n)(h:cF ws=0)(hr:RdW w w.heap.size A ws)(ho:∀x∈ws,x<18446744073709551616):
 Calls prog 237 #[.slice A n c] w λe w'=>e=.returned (.tuple #[phV (wd ws 16) (wd ws 17) (wd ws 18),.int .i64 0])/\Below w.heap.size w w':=by
 obtain⟨D,-⟩:=dt h;obtain⟨m,-,-⟩:=cK D;have E:=de ws m;have B:=hid (λW=>fv A n c W (by omega));rw[aW (by rw[<-hn];exact m)] at B;have j:=hid (kN A ws c n (w.alloc (.cells #[.int .i64 0,.int .i64 0,.int .i64 0] 107)) hn h ((hr.alloc (kqb _) _).more (by simp)) ho);rw[kqn] at j;obtain⟨p,u⟩:=xq (wd ws 16);obtain⟨f,z⟩:=xq (wd ws 17);obtain⟨t,C⟩:=xq (wd ws 18);rw[u,z,C] at j |-;unfold phV at j |-;clear hr ho h D m hn u z C E;go_enter func237,ntmps237;go_wp2_with fail;refine (B.out _).mono ?_;rintro e r ⟨rfl,rfl⟩;go_wp2_with fail;refine j.out.mono ?_;rintro e r ⟨rfl,b⟩;have a:=ao b;have q:=a.size;have y:=hid (Bx.of_new b);have i:=hid (Bx.new r 107 #[.int .i64 (p:Int),.int .i64 (f:Int),.int .i64 (t:Int)]);have l:=hid (a.alloc q (.cells #[.int .i64 (p:Int),.int .i64 (f:Int),.int .i64 (t:Int)] 107));have s:=hid (y.out.alloc (.cells #[.int .i64 (p:Int),.int .i64 (f:Int),.int .i64 (t:Int)] 107));clear b a y;go_wp2_with (first
  | ((with_reducible refine fF 107 (.tmp 5) ?_);refine kxg rfl _ _ rfl r.heap.size (by rfl) 107 #[.int .i64 (p:Int),.int .i64 (f:Int),.int .i64 (t:Int)] (0,0) _ i.out underlying107 (by rfl) fJ ?_)
  | ((with_reducible refine bq 107 (.tmp 2) _ ?_);refine ai rfl _ _ _ rfl w.heap.size 107 #[.int .i64 0,.int .i64 0,.int .i64 0] #[.int .i64 (p:Int),.int .i64 (f:Int),.int .i64 (t:Int)] (by rfl) (by rfl) s.out rfl fJ (by simp[Value.oneCell']) ?_;intro w4 g d;have o:=hid g;have k:=hid d;clear g d))
 exact kqr (v:=.tuple #[.agg #[.int .i64 (p:Int),.int .i64 (f:Int),.int .i64 (t:Int)],.int .i64 0]) (aR results237 _ o.out rfl rfl) rfl ⟨rfl,k.out.below l.out (kqb _)⟩
theorem md_at{i:Nat}(h:lR ws i=true):∃T S:Nat,T<8/\szAt ws i=S/\2<=S/\S<=10/\ze (wd ws i)=⟨0,(S:Int),1,(T:Int),false,0⟩/\ay (wd ws i)=true/\bE (wd ws (96+2*T)) (wd ws (96+2*T+1))=true/\(S:Int)=((aX (cm (wd ws (96+2*T))).length:Nat):Int):=by
 have c:=jR h;unfold lR at h;simp only[kqw,kqu,kxo] at h;obtain⟨b,k,j,a⟩:=h;have g:iF (ah (wd ws i))=true:=by unfold ay at b;simp only[kqw] at b;exact b.1
 have h5:=(bj _).1 g;obtain⟨T,d⟩:=kq2 (show 0<=(ah (wd ws i)).typ by omega);have f:(ah (wd ws i)).size=((szAt ws i:Nat):Int):=rfl;unfold db at a;simp only[kqw,kqu] at a;have e:tyA (ah (wd ws i))=96+2*T:=by unfold tyA;rw[d];simp
 rw[e,f] at a;refine⟨T,szAt ws i,by omega,rfl,c.1,c.2.2,?_,b,a.1,by rw[cV];exact a.2⟩;rw[(kr b).1,<-d,<-f,<-k,<-j];rfl
theorem xO(A:Option Addr)(ws:List Nat)(c n t:Nat)(w:World)(hn:ws.length=n)(h2:256<=n)(hm:n<=2048)(ht:t<=n)(h128:128<=t)(h:mvd ws 128 t=true)(l:RdW w w.heap.size A ws)(ho:∀x∈ws,x<18446744073709551616):
 Calls prog 240 #[.slice A n c,.int .i64 (t:Int)] w λe w'=>e=.returned (.bool true)/\Below w.heap.size w w':=by
 have H:=hid (λi (hi:i<t) (hmv:mvd ws i t=true)=>show lR ws i=true/\mvd ws (i+szAt ws i) t=true/\i+szAt ws i<=t by
  have f:lR ws i=true:=by
   cases K:lR ws i with
   | true=>rfl
   | false=>rw[pU hi K] at hmv;cases hmv
  have B:=jC hi f;rw[hmv] at B;refine⟨f,B.symm,?_⟩;by_cases K:i+szAt ws i<=t
  .exact K
  rw[iU (by omega),eq_comm,kqu] at B;omega)
 have J:=hid (λi W=>om (wd ws i) W (eX ho i));have s:=hid (λt xa xs xk xm xn W ht h hs (l:RdW W W.heap.size A ws)=>tI A ws c n t xa xs xk xm xn W hn (by omega) h2 ht h hs l ho);have D:Hid (∀W r,r<n->RdW W W.heap.size A ws->∃b j,A=some ⟨b,j,none⟩/\b<W.heap.size/\W.cell? ⟨b,j+r,none⟩=some (.int .u64 (wd ws r:Int))):=hid λW r hr2 h=>by
  obtain⟨b,j,e,L,hc⟩:=RdW.at_ h (show r<ws.length by omega);rw[<-bI] at hc;exact⟨b,j,e,L,hc⟩
 have V:=hid l;have H0:=hid h;clear l ho hn h;go_enter func240,ntmps240;go_wp2_with fail;go_loopw [5] (λvi wr=>∃i:Nat,128<=i/\i<=t/\vi=.int .i64 i/\Hid (mvd ws i t=true)/\Below w.heap.size w wr) (λi _=>t-(intOf i).toNat)
 case atStart=>exact⟨128,kqb _,h128,rfl,H0,kqk _ _⟩
 obtain⟨i,hi1,hi2,rfl,F,m⟩:=hrel;have R:=m.size;by_cases p:i<t
 .obtain ⟨f,d,z⟩:=H.out i p F.out;obtain⟨T,S,k1,M,k3,k4,Q,P,Y,X⟩:=md_at f;rw[M] at d z;have a:=hid (J.out i);rw[Q,P] at a;unfold Bk.val at a;dsimp only at a;have I:=hid (V.out.up m R);obtain⟨bA,oA,hA,hbA,N⟩:=D.out wr i (by omega) I.out;subst hA;obtain⟨v,O⟩:=xq (wd ws i);rw[O] at N a;have y:=hid d;have HF:=hid (λW (l:RdW W W.heap.size (some ⟨bA,oA,none⟩) ws)=>s.out T 0 (S:Int) 1 false 0 W k1 Y X l);have hi0:(0:Int)<=(i:Int):=by omega
  have hin:(i:Int)<(n:Int):=by omega
  have hit:(i:Int)<(t:Int):=by omega
  have hwt:IntKind.i64.wrap ((t:Int)-(i:Int))=(t:Int)-(i:Int):=kqo _ (by omega);have hwi:IntKind.i64.wrap ((i:Int)+(S:Int))=(i:Int)+(S:Int):=kqo _ (by omega);have d1:decide ((t:Int)-(i:Int)<(S:Int))=false:=by rw[kqc];omega
  have E:=hid m;clear f d O M Q P Y X m;go_wp2_with fail;refine (a.out wr).mono ?_;rintro e U ⟨rfl,q⟩;have u:=hid (E.out.trans (q.mono R));have g:=hid (u.out.alloc u.out.size (.cells #[.int .i64 0,.int .i64 (S:Int),.int .i64 1,.int .i64 (T:Int),.bool false,.int .u64 0] 55));have C:=hid (V.out.up g.out g.out.size);have Z:=hid (Bx.new U 55 #[.int .i64 0,.int .i64 (S:Int),.int .i64 1,.int .i64 (T:Int),.bool false,.int .u64 0]);clear q N;go_wp2_with fail;refine (HF.out _ C.out).mono ?_;rintro e w3 ⟨rfl,k⟩;have o:=Z.out.up k Z.out.lt;have q1:w3.cell? ⟨U.heap.size,1,none⟩=some (.int .i64 (S:Int)):=o.cell 1;have G:=hid (g.out.trans (k.mono g.out.size));clear k o;go_wp2;go_roundw
  case rel=>exact⟨i+S,by omega,z,by rw[kx1],y,G.out⟩
  case measure=>simp[intOf];omega
 have hkd:decide ((i:Int)<(t:Int))=false:=by rw[kqc];omega
 have hkn:decide (i<t)=false:=by rw[kqc];exact p
 have E:=hid m;clear m;go_wp2;go_ret;exact⟨rfl,E.out⟩
theorem rd_hp(h:bi ws 128 128=0):ag ws=0:=by
 obtain⟨l,a,b,ea,-,f,e,-,-,-,-,-,-,d,-⟩:=sL h;obtain rfl:a=128:=by omega
 have c:l.all (dA ws)=true:=kzq.2 d;simp[ag,f,e,c]
theorem ry(h:aw ws=0):cF ws=0/\(wd ws 16=4/\mvd ws 128 (wd ws 18)=true/\bi ws (wd ws 17:Nat) (wd ws 18:Nat)=0\/wd ws 16=3/\bi ws 128 128=0/\ag ws=0\/wd ws 16<3/\ag ws=0):=by
 unfold aw at h;by_cases a:cF ws=0
 .rw[if_pos a] at h;refine⟨a,?_⟩;by_cases c:wd ws 16=4
  .rw[if_pos c] at h;split at h
   .rename_i hm;exact .inl ⟨c,hm,h⟩
   simp at h
  rw[if_neg c] at h;by_cases b:wd ws 16=3
  .rw[if_pos b] at h;exact .inr (.inl ⟨b,h,rd_hp h⟩)
  rw[if_neg b] at h;have h5:=(b8 _ _ _).1 (cK (dt a).1).2.2;exact .inr (.inr ⟨by omega,h⟩)
 rw[if_neg a] at h;exact absurd h a
theorem ms(A:Option Addr)(ws:List Nat)(c n:Nat)(w:World)(hn:ws.length=n)(h:aw ws=0)(hr:RdW w w.heap.size A ws)(ho:∀x∈ws,x<18446744073709551616):
 Calls prog 189 #[.slice A n c] w λe w'=>e=.returned (.int .i64 0)/\Below w.heap.size w w':=by
 obtain⟨I,R⟩:=ry h;obtain⟨M,y,C⟩:=cK (dt I).1;obtain⟨⟨-,-,m⟩,-⟩:=(aY ws).1 y;have P:=de ws M;have r:=hid (Cy A ws c n w hn I hr ho);have Q:=hid hr;rcases R with⟨S,U,o⟩|⟨L,o,J⟩|⟨L,J⟩
 .have F:128<=wd ws 18:=by
   rcases (b8 _ _ _).1 C with⟨-,-,q,-⟩|⟨q,-⟩|⟨q,-⟩
   .exact ((aQ _).1 q).1
   .omega
   omega
  have T:=hid (λW (h:RdW W W.heap.size A ws)=>xO A ws c n (wd ws 18) W hn (by omega) (by omega) (by omega) F U h ho);have k:=hid (λW (h:RdW W W.heap.size A ws)=>pe A ws c n (wd ws 17:Nat) (wd ws 18:Nat) W hn o h ho);obtain⟨f,v⟩:=xq (wd ws 17);obtain⟨t,u⟩:=xq (wd ws 18);rw[S,v,u] at r;rw[u] at T;rw[v,u] at k;obtain⟨q,K⟩:∃q,gj ws (f:Int) (t:Int)=q:=⟨_,rfl⟩;rw[K] at k;unfold phV at r;(try simp only[kqy] at r);clear hr ho hn h I M y C m P S U o F v u K;go_enter func189,ntmps189;go_wp2_with fail;refine r.out.mono ?_;rintro e z ⟨rfl,g⟩;have b:=hid (g.alloc g.size (.cells #[.int .i64 4,.int .i64 (f:Int),.int .i64 (t:Int)] 107));have j:=hid (Q.out.up b.out b.out.size);have D:=hid (Bx.new z 107 #[.int .i64 4,.int .i64 (f:Int),.int .i64 (t:Int)]);clear g;go_wp2_with fail;refine (T.out _ j.out).mono ?_;rintro e E ⟨rfl,a⟩;have l:=hid (D.out.up a D.out.lt);have q1:E.cell? ⟨z.heap.size,1,none⟩=some (.int .i64 (f:Int)):=l.out.cell 1;have q2:E.cell? ⟨z.heap.size,2,none⟩=some (.int .i64 (t:Int)):=l.out.cell 2;have i:=hid (b.out.trans (a.mono b.out.size));have H:=hid (j.out.up a a.size);clear a;go_wp2_with fail;refine (k.out E H.out).mono ?_;rintro e X ⟨⟨B,d,rfl,-⟩,s⟩;have G:=hid (i.out.trans (s.mono i.out.size));clear s;go_wp2;go_ret;exact⟨rfl,G.out⟩
 .have N:=hid (λW (h:RdW W W.heap.size A ws)=>fo A ws c n W hn J h ho);have k:=hid (λW (h:RdW W W.heap.size A ws)=>pe A ws c n 128 128 W hn o h ho);obtain⟨f,v⟩:=xq (wd ws 17);obtain⟨t,u⟩:=xq (wd ws 18);rw[L,v,u] at r;obtain⟨q,K⟩:=xq (gj ws 128 128);rw[K] at k;unfold phV at r;(try simp only[kqy] at r);clear hr ho hn h I M y C m P L o J v u K;go_enter func189,ntmps189;go_wp2_with fail;refine r.out.mono ?_;rintro e z ⟨rfl,g⟩;have b:=hid (g.alloc g.size (.cells #[.int .i64 3,.int .i64 (f:Int),.int .i64 (t:Int)] 107));have j:=hid (Q.out.up b.out b.out.size);have D:=hid (Bx.new z 107 #[.int .i64 3,.int .i64 (f:Int),.int .i64 (t:Int)]);clear g;go_wp2_with fail;refine (N.out _ j.out).mono ?_;rintro e E ⟨rfl,a⟩;have l:=hid (D.out.up a D.out.lt);have V:E.cell? ⟨z.heap.size,0,none⟩=some (.int .i64 3):=l.out.cell 0;have i:=hid (b.out.trans (a.mono b.out.size));have H:=hid (j.out.up a a.size);clear a;go_wp2_with fail;refine (k.out E H.out).mono ?_;rintro e X ⟨⟨B,d,rfl,-⟩,s⟩;have G:=hid (i.out.trans (s.mono i.out.size));clear s;go_wp2;go_ret;exact⟨rfl,G.out⟩
 have N:=hid (λW (h:RdW W W.heap.size A ws)=>fo A ws c n W hn J h ho);obtain⟨p,O⟩:=xq (wd ws 16);obtain⟨f,v⟩:=xq (wd ws 17);obtain⟨t,u⟩:=xq (wd ws 18);rw[O,v,u] at r;rw[O] at L;unfold phV at r;have e4:((p:Int) != 4)=true:=by rw[kqt];omega
 have e3:((p:Int)==3)=false:=by rw[kqi];omega
 have e4n:(p != 4)=true:=by rw[kqt];omega
 have e3n:(p==3)=false:=by rw[kqi];omega
 clear hr ho hn h I M y C m P L J O v u;go_enter func189,ntmps189;go_wp2_with fail;refine r.out.mono ?_;rintro e z ⟨rfl,g⟩;have b:=hid (g.alloc g.size (.cells #[.int .i64 (p:Int),.int .i64 (f:Int),.int .i64 (t:Int)] 107));have j:=hid (Q.out.up b.out b.out.size);have D:=hid (Bx.new z 107 #[.int .i64 (p:Int),.int .i64 (f:Int),.int .i64 (t:Int)]);clear g;go_wp2_with fail;refine (N.out _ j.out).mono ?_;rintro e E ⟨rfl,a⟩;have l:=hid (D.out.up a D.out.lt);have V:E.cell? ⟨z.heap.size,0,none⟩=some (.int .i64 (p:Int)):=l.out.cell 0;have i:=hid (b.out.trans (a.mono b.out.size));clear a;go_wp2;go_ret;exact⟨rfl,i.out⟩
theorem B3:(prog.info? 55).map (λi=>(i.zero,i.size,i.bytes))=some (some (.agg #[.int .i64 0,.int .i64 0,.int .i64 0,.int .i64 0,.bool false,.int .u64 0]),6,48):=by kernel_rfl
def lvP (l:List Bk) (k:Nat):List Bk:=(l.take k).filter aA
theorem AV{l:List Bk}(hk:k<l.length):lvP l (k+1)=lvP l k++(if aA l[k]=true then [l[k]] else []):=by unfold lvP;rw[kqq hk,kxj];cases h:aA l[k]<;>simp[h]
theorem Fe(l:List Bk)(k:Nat):(lvP l k).length<=k:=kzv (kxm _ _) (kkm _ _)
def uV (H:Nat) (l:List Bk) (e:Ending) (w':World):Prop:=∃B d,e=.returned (.slice B l.length d)/\w'.ownsRow H 55 6 (.slice B l.length d) l.length (l.flatMap Bk.cells)
theorem mh(A:Option Addr)(ws:List Nat)(c n a:Nat)(l:List Bk)(w:World)(hn:ws.length=n)(hs:ak (ws.length:Int)=true)(ha:a%2=0)(h128:128<=a)(han:a<=n)(hl:blocks ws a=some l)(hr:RdW w w.heap.size A ws)(ho:∀x∈ws,x<18446744073709551616):
 Calls prog 194 #[.slice A n c,.int .i64 (a:Int)] w λe w'=>uV w.heap.size (l.filter aA) e w'/\Below w.heap.size w w':=by
 subst hn;have hb:=de ws hs;have K:=hid (lS A ws c ws.length a w rfl (by omega) (by omega) han ha hr ho);unfold rW nw at K;rw[hl] at K;simp only[kq4,kxk] at K;have Fo:=(a9 (by omega) a l hl (by omega) (by omega) (by omega)).1;have W:=hid (λk (hk:k<l.length)=>AV hk);have Fs:=hid (Fe l);have U:Hid (lvP l 0=[]):=hid (by simp[lvP]);have z:Hid (lvP l l.length=l.filter aA):=hid (by unfold lvP;rw[kzj]);obtain⟨m,hm⟩:=xq l.length;have hml:m<=1024:=by omega
 rw[hm] at K z;have HM:=hid hm;unfold uV;clear hr ho hl hs hm Fo hb;obtain⟨i0,hi,G,O,r⟩:=kze B3;have HI:=hid hi;have Eq:=hid G;have Y:=hid O;have Fq:=hid r;clear hi G O r;go_enter func194,ntmps194;go_wp2_with fail;refine K.out.mono ?_;rintro e T ⟨⟨A1,c1,rfl,P,-⟩,J⟩;have Fp:=hid P;have B:=hid J;clear P J;go_wp2_with fail;go_loopw [7,8] (λvo vi wr=>∃k:Nat,k<=m/\vi=.int .i64 k/\wr.ownsRow T.heap.size 55 6 vo (lvP l k).length ((lvP l k).flatMap Bk.cells)/\Below T.heap.size T wr) (λ_ i _=>m-(intOf i).toNat)
 case atStart=>exact⟨0,kqx _,rfl,by rw[U.out];exact kq1 _ _ _ _,kqk _ _⟩
 obtain⟨k,hk,rfl,f,C⟩:=hrel;have hz:=C.size;have hkl:=Fs.out k;by_cases H:k<m
 .have R:k<l.length:=by rw[HM.out];exact H
  obtain⟨b,o,rfl,hbw,L,I,M,F,Q,N⟩:=RdB.at_ (Rd.below Fp.out C) R;have g:=W.out k R;obtain⟨x,hx⟩:=xq (l[k]);rw[hx] at L I M F Q N g;have h:=hid (pr x wr);unfold qM at h;have hk0:(0:Int)<=(k:Int):=by omega
  have hki:(k:Int)<(m:Int):=by omega
  have j:b<wr.heap.size:=by omega
  have y:=hid f;have S:=hid C;clear f C hx;cases t:aA x
  .rw[t] at g h;rw[if_neg (by decide),kzm] at g;have u:=hid g;obtain⟨xa,xs,Z,V,X,xn⟩:=x;dsimp only at L I M F Q N h;clear g t;go_wp2_with fail;refine h.out.mono ?_;rintro e w2 ⟨rfl,d⟩;have s:=hid (ae y.out d (kqb _));have v:=hid (S.out.trans (d.mono hz));clear d;go_wp2;go_roundw
   case rel=>exact⟨k+1,by omega,by go_num,by rw[u.out];exact s.out,v.out⟩
   case measure=>simp[intOf];omega
  rw[t] at g h;rw[if_pos rfl] at g;obtain⟨xa,xs,Z,V,X,xn⟩:=x;have u:=hid (show (lvP l (k+1)).flatMap Bk.cells=(lvP l k).flatMap Bk.cells++[.int .i64 xa,.int .i64 xs,.int .i64 Z,.int .i64 V,.bool X,.int .u64 (xn:Int)]/\(lvP l (k+1)).length=(lvP l k).length+1 by rw[g,kz0,kqz];exact⟨rfl,rfl⟩);dsimp only at L I M F Q N h;clear g t;go_wp2_with fail;refine h.out.mono ?_;rintro e w2 ⟨rfl,d⟩;have s:=hid (ae y.out d (kqb _));have v:=hid (S.out.trans (d.mono hz));have r:=v.out.size;have r0:=(d.cell (p:=⟨b,o+k*6,none⟩) j).trans L;have r1:=(d.cell (p:=⟨b,o+k*6+1,none⟩) j).trans I;have r2:=(d.cell (p:=⟨b,o+k*6+2,none⟩) j).trans M;have r3:=(d.cell (p:=⟨b,o+k*6+3,none⟩) j).trans F;have r4:=(d.cell (p:=⟨b,o+k*6+4,none⟩) j).trans Q;have r5:=(d.cell (p:=⟨b,o+k*6+5,none⟩) j).trans N;clear d L I M F Q N;go_wp2_with (at_builtin;refine kq9 _ rfl _ _ 48 rfl T.heap.size 55 i0 _ 6 48 underlying48 HI.out Eq.out Y.out Fq.out rfl (by decide) _ _ _ rfl (s.out.alloc _) ⟨_,0,none⟩ 1 1 [.int .i64 xa,.int .i64 xs,.int .i64 Z,.int .i64 V,.bool X,.int .u64 (xn:Int)] rfl rfl (bn _ _ _) (by simp[Value.oneCell']) (by unfold maxLen;omega) (by omega) (by simp;omega) ?_;intro v1 w6 q E _;have Fr:=hid (am v.out r s.out E);have Ft:=hid q;clear q E);go_roundw
  case rel=>exact⟨k+1,by omega,by go_num,by rw[u.out.1,u.out.2];exact Ft.out,Fr.out⟩
  case measure=>simp[intOf];omega
 have D:k=m:=by omega
 have hE:lvP l k=l.filter aA:=by rw[D];exact z.out
 rw[hE] at f;obtain⟨Av,dv,rfl⟩:=ap f;have y:=hid f;have S:=hid C;have hkd:decide ((k:Int)<(m:Int))=false:=by rw[kqc];omega
 have hkn:decide (k<m)=false:=by rw[kqc];exact H
 clear D hE f C;go_wp2;go_ret;exact⟨⟨Av,dv,rfl,ar y.out B.out.size⟩,B.out.trans (S.out.mono B.out.size)⟩
def mvE (ws:List Nat) (a u j:Nat):En:=⟨((u+j:Nat):Int),if j=0 then cC { ah (wd ws a) with mark:=false } else if j=1 then 0 else wd ws (a+j)⟩
def mvQ (ws:List Nat) (a u k:Nat):List En:=(List.range k).map (mvE ws a u)
theorem BL(ws:List Nat)(a u k:Nat):mvQ ws a u (k+1)=mvQ ws a u k++[mvE ws a u k]:=by simp[mvQ,List.range_succ]
theorem ES(ws:List Nat)(a u:Nat):mvQ ws a u (szAt ws a)=iG ws a u:=rfl
theorem DU(ws:List Nat)(a u k:Nat):(mvQ ws a u k).length=k:=by simp[mvQ]
def DE (H:Nat) (l:List En) (e:Ending) (w':World):Prop:=∃B d,e=.returned (.slice B l.length d)/\w'.ownsRow H 89 2 (.slice B l.length d) l.length (l.flatMap En.cells)
theorem zB(A:Option Addr)(ws:List Nat)(c n a u:Nat)(w:World)(hn:ws.length=n)(hm:n<=2048)(hu:u<=4096)(hst:stands ws a=true)(m:(ah (wd ws a)).kind=1)(hr:RdW w w.heap.size A ws):
 Calls prog 195 #[.slice A n c,qM (bkAt ws a),.int .i64 (u:Int)] w λe w'=>DE w.heap.size (iG ws a u) e w'/\Below w.heap.size w w':=by
 have s:=ax hst;obtain⟨S,L⟩:=xq (szAt ws a);rw[L] at s;have eS:(ah (wd ws a)).size=(S:Int):=by rw[<-L];rfl
 obtain⟨T,hT⟩:=xq (wd ws a/512%128);have eT:(ah (wd ws a)).typ=(T:Int):=by rw[<-hT];rfl
 have Fr:T<128:=by omega
 have HW:=hid (λW=>kG 1 T S false W (by omega) Fr (by omega));obtain⟨V,hV⟩:∃V,cC { ah (wd ws a) with mark:=false }=V:=⟨_,rfl⟩;have eV:1+lO false*256+T*512+S*65536+iH (1+lO false*256+T*512+S*65536)%4294967296*4294967296=V:=by rw[<-hV];unfold cC jN;rw[eS,eT,m];simp
 rw[eV] at HW;have hb:qM (bkAt ws a)=.agg #[.int .i64 (a:Int),.int .i64 (S:Int),.int .i64 1,.int .i64 (T:Int),.bool (bkAt ws a).mark,.int .u64 ((bkAt ws a).next:Int)]:=by unfold qM bkAt;dsimp only;rw[eS,eT,m]
 rw[hb];obtain⟨M,C⟩:=xq ((bkAt ws a).mark);obtain⟨N,G⟩:=xq ((bkAt ws a).next);rw[C,G];have Fq:=hid (BL ws a u);have I:=hid (DU ws a u);have y:=hid (ES ws a u);rw[L] at y;have P:Hid ((mvQ ws a u 2).flatMap En.cells=[.int .i64 (u:Int),.int .u64 (V:Int),.int .i64 ((u:Int)+1),.int .u64 0]):=hid (by simp[mvQ,mvE,List.range_succ,En.cells,hV]);have O:Hid (∀k,2<=k->mvE ws a u k=⟨((u+k:Nat):Int),wd ws (a+k)⟩):=hid λk hk=>by unfold mvE;rw[if_neg (by omega),if_neg (by omega)]
 have U:Hid (∀W r,r<n->RdW W W.heap.size A ws->∃b p,A=some ⟨b,p,none⟩/\b<W.heap.size/\W.cell? ⟨b,p+r,none⟩=some (.int .u64 (wd ws r:Int))):=hid λW r hr2 h=>by
  obtain⟨b,p,e,Fs,hc⟩:=RdW.at_ h (show r<ws.length by omega);rw[<-bI] at hc;exact⟨b,p,e,Fs,hc⟩
 rw[hn] at s;have HR:=hid hr;have hwu:IntKind.i64.wrap ((u:Int)+1)=(u:Int)+1:=kqo _ (by omega);have K:=Bx.new w 55 #[.int .i64 (a:Int),.int .i64 (S:Int),.int .i64 1,.int .i64 (T:Int),.bool M,.int .u64 (N:Int)];have BX:=hid K;have H:=hid ((kqk w.heap.size w).alloc (kqb _) (.cells #[.int .i64 (a:Int),.int .i64 (S:Int),.int .i64 1,.int .i64 (T:Int),.bool M,.int .u64 (N:Int)] 55));have b1:=K.cell 1;have b3:=K.cell 3;unfold DE;clear hr hn hst m eS eT eV hV hT hb C G L K;obtain⟨i0,hi,E,j,D⟩:=kze bB;have HI:=hid hi;have Z:=hid E;have R:=hid j;have Eq:=hid D;clear hi E j D;go_enter func195,ntmps195;go_wp2_with fail;refine (HW.out _).mono ?_;rintro e F ⟨rfl,x⟩;have J:=hid (BX.out.up x BX.out.lt);have f:=hid (H.out.trans (x.mono H.out.size));have j:=f.out.size;clear x b1 b3;go_wp2_with fail;go_loopw [7,8] (λvo vi wr=>∃k:Nat,2<=k/\k<=S/\vi=.int .i64 k/\wr.ownsRow F.heap.size 89 2 vo k ((mvQ ws a u k).flatMap En.cells)/\Below F.heap.size F wr) (λ_ i _=>S-(intOf i).toNat)
 case atStart=>exact⟨2,kqb _,s.1,rfl,by rw[P.out];exact bh (n:=2) (sz:=2) F 89 _ (kqb _) (by rfl) (by unfold maxLen;omega),(kqk _ _).alloc (kqb _) _⟩
 obtain⟨k,Q,hk,rfl,d,q⟩:=hrel;have hz:=q.size;have t:=hid (J.out.up q J.out.lt);have b0:=t.out.cell 0;have b1:=t.out.cell 1;have hbl:=t.out.lt;by_cases Y:k<S
 .obtain ⟨bA,oA,hA,hbA,v0⟩:=U.out wr (a+k) (by omega) (HR.out.up (f.out.trans (q.mono j)) (f.out.trans (q.mono j)).size);subst hA;have l:=Fq.out k;rw[O.out k Q] at l;obtain⟨v,hv⟩:=xq (wd ws (a+k));rw[hv] at v0 l;have Fp:=hid (show (mvQ ws a u (k+1)).flatMap En.cells=(mvQ ws a u k).flatMap En.cells++[.int .i64 ((u:Int)+(k:Int)),.int .u64 (v:Int)] by rw[l,kz0];rfl);have hki:(k:Int)<(S:Int):=by omega
  have hwk:IntKind.i64.wrap ((u:Int)+(k:Int))=(u:Int)+(k:Int):=kqo _ (by omega);have hwa:IntKind.i64.wrap ((a:Int)+(k:Int))=(a:Int)+(k:Int):=kqo _ (by omega);have ha0:(0:Int)<=(a:Int)+(k:Int):=by omega
  have ha1:(a:Int)+(k:Int)<(n:Int):=by omega
  have htn:((a:Int)+(k:Int)).toNat=a+k:=by omega
  have o:=hid d;have X:=hid q;clear l hv d q;go_wp2_with (at_builtin;refine kq9 _ rfl _ _ 26 rfl F.heap.size 89 i0 _ 2 16 underlying26 HI.out Z.out R.out Eq.out rfl (by decide) _ _ _ rfl (o.out.alloc _) ⟨_,0,none⟩ 1 1 [.int .i64 ((u:Int)+(k:Int)),.int .u64 (v:Int)] rfl rfl (bn _ _ _) (by simp[Value.oneCell']) (by unfold maxLen;omega) (by omega) (by simp;omega) ?_;intro v1 w6 g B _;have Fo:=hid (am X.out hz o.out B);have Ft:=hid g;clear g B);go_roundw
  case rel=>exact⟨k+1,by omega,by omega,by go_num,by rw[Fp.out];exact Ft.out,Fo.out⟩
  case measure=>simp[intOf];omega
 have z:k=S:=by omega
 obtain⟨Av,dv,rfl⟩:=ap d;have o:=hid d;have X:=hid q;have m:decide ((k:Int)<(S:Int))=false:=by rw[kqc];omega
 have hkn:decide (k<S)=false:=by rw[kqc];exact Y
 have HE:=hid z;clear z d q;go_wp2;go_ret;refine⟨⟨Av,dv,?_,?_⟩,f.out.trans (X.out.mono f.out.size)⟩
 .rw[<-y.out,I.out,HE.out];rfl
 have h:=ar o.out f.out.size;rw[HE.out] at h;rw[<-y.out,I.out];exact h
theorem qc(A:Option Addr)(E:List En)(c n p H:Nat)(w:World)(hn:E.length=n)(hm:n<=100000)(hp:p<=100)(hown:w.ownsRow H 89 2 (.slice A n c) n (E.flatMap En.cells))(hH:H<=w.heap.size):
 Calls prog 191 #[.slice A n c,.int .i64 (p:Int)] w λe w'=>DE H (gE E p) e w'/\Below w.heap.size w w':=by
 subst hn;unfold DE;by_cases h:32<=E.length
 .have y:=ce (p:=p) h;obtain⟨g,c',e⟩:=jw hown (by omega);have o:=jt hown;cases e;have t:=hid (sG hown (show 31<=E.length by omega));have B:(E.take 31).length=31:=by rw[kzd];omega
  have b:=hid (And.intro y B);have s:decide ((31:Int)<(E.length:Int))=true:=by rw[kql];omega
  have d:decide (31<E.length)=true:=by rw[kql];omega
  have c31:(31:Int)<=(c:Int):=by omega
  have l31:(31:Int)<=(E.length:Int):=by omega
  clear y B h hown o;go_enter func191,ntmps191;go_wp2;go_ret;refine⟨⟨some ⟨g,0,none⟩,c,by rw[b.out.1,b.out.2];rfl,?_⟩,kqk _ _⟩;rw[b.out.1,b.out.2,kC En.cells 2 En.len];exact t.out
 have b:=hid (gq (p:=p) h);have G:=hid (Rd.more (Rd.of_own hown) (kqb _));have s:decide ((31:Int)<(E.length:Int))=false:=by rw[kqc];omega
 have d:decide (31<E.length)=false:=by rw[kqc];omega
 have hwp:IntKind.u64.wrap (p:Int)=(p:Int):=kzi _ (by omega);have hEl:E.length<=31:=by omega
 have D:=hid hH;clear h hown hH hm;obtain⟨C,z,k,m,l⟩:=kze bB;have J:=hid z;have u:=hid k;have x:=hid m;have r:=hid l;clear z k m l;go_enter func191,ntmps191;go_wp2_with (at_builtin;refine aI _ (by rfl) _ _ 26 rfl w.heap.size 89 C _ 2 16 underlying26 J.out u.out x.out r.out rfl (by decide) (.slice (some ⟨w.heap.size,0,none⟩) 1 1) 1 [.int .i64 16,.int .u64 (p:Int)] (by rfl) (bh (n:=1) (sz:=2) w 89 #[.int .i64 16,.int .u64 (p:Int)] (kqb _) (by rfl) (by unfold maxLen;omega)) w.heap.size (A) (E.length) c (E.flatMap En.cells) (by rfl) (by rw[bY En.cells 2 En.len]) (Rd.alloc (G.out) (kqb _) _) (cn En.one _) (by unfold maxLen;omega) (by omega) (by simp) ?_;intro v1 wa a i;have f:=aM ((kqk w.heap.size w).alloc (kqb _) _) (by simp) (bh (n:=1) (sz:=2) w 89 #[.int .i64 16,.int .u64 (p:Int)] (kqb _) (by rfl) (by unfold maxLen;omega)) i;have j:=hid a;have q:=hid f;clear a f i);go_ret;have v:=ar j.out D.out;rw[kxs] at v;obtain⟨I,F,rfl⟩:=ap v;refine⟨⟨I,F,by rw[b.out];rfl,?_⟩,q.out⟩;rw[b.out,kq3];exact v
theorem xR(h:dX ws=0):∃l,blocks ws (wd ws 17)=some l/\l.filter aA=[]/\128<=wd ws 17/\wd ws 17%2=0/\wd ws 17<=ws.length:=by
 obtain⟨i,h2,d⟩:=jx h;obtain⟨n,-⟩:=fj h;obtain⟨-,s⟩:=ry i;rcases s with⟨-,-,e⟩|⟨q,-⟩|⟨q,-⟩
 .obtain ⟨l,a,b,ea,-,f,-,t,r,-,-,-,m,-⟩:=sL e;obtain rfl:wd ws 17=a:=by omega
  refine⟨l,f,?_,r,t,m⟩;have k:fN ws=((wd ws 17:Nat):Int):=by unfold fN;rw[if_neg (by omega)]
  have p:eB ws.length ((wd ws 17:Nat):Int)=false:=by simp only[eB,kzo,kqc,kqp];omega
  have o:=(ci n p (l:=l) (by rw[kqj];exact f)).2;unfold lfN at d;rw[if_pos i,if_neg (by omega),k,o] at d;unfold ed at d;rw[kzl] at d;have g:l.filter (·.mark)=[]:=kxa d;rw[kj6] at g |-;intro x j c;refine g x j ?_;unfold aA at c;simp only[kqw] at c;exact c.2
 .omega
 omega
theorem xh(A:Option Addr)(ws:List Nat)(c n:Nat)(w:World)(hn:ws.length=n)(h:dX ws=0)(hr:RdW w w.heap.size A ws)(ho:∀x∈ws,x<18446744073709551616):
 Calls prog 198 #[.slice A n c] w λe w'=>e=.returned (.tuple #[.int .i64 (wd ws 18:Int),.int .i64 0])/\Below w.heap.size w w':=by obtain⟨J,G,-⟩:=jx h;obtain⟨D,K,-⟩:=fj h;obtain⟨l,C,z,L,I,N⟩:=xR h;have u:=hid (ms A ws c n w hn J hr ho);have o:=hid (λW (h:RdW W W.heap.size A ws)=>kN A ws c n W hn K h ho);have a:=hid (λW (h:RdW W W.heap.size A ws)=>mh A ws c n (wd ws 17) l W hn D I L (by omega) C h ho);rw[z] at a;unfold uV at a;simp only[kxc] at a;obtain⟨f,q⟩:=xq (wd ws 17);obtain⟨t,v⟩:=xq (wd ws 18);rw[G,q,v] at o;rw[q] at a;rw[v];unfold phV at o;(try simp only[kqy] at o);have H:=hid hr;clear hr ho h J G D K C z L I N q v hn;go_enter func198,ntmps198;go_wp2_with fail;refine u.out.mono ?_;rintro e M ⟨rfl,g⟩;have m:=hid g;have r:=hid (H.out.up g g.size);clear g;go_wp2_with fail;refine (o.out M r.out).mono ?_;rintro e F ⟨rfl,k⟩;have i:=m.out.trans (k.mono m.out.size);have b:=hid (i.alloc i.size (.cells #[.int .i64 4,.int .i64 (f:Int),.int .i64 (t:Int)] 107));have y:=hid (H.out.up b.out b.out.size);have E:=hid (Bx.new F 107 #[.int .i64 4,.int .i64 (f:Int),.int .i64 (t:Int)]);clear k i;go_wp2_with fail;refine (a.out _ y.out).mono ?_;rintro e O ⟨⟨B,d,rfl,-⟩,j⟩;have s:=hid (E.out.up j E.out.lt);have q2:O.cell? ⟨F.heap.size,2,none⟩=some (.int .i64 (t:Int)):=s.out.cell 2;have p:=hid (b.out.trans (j.mono b.out.size));clear j;go_wp2;go_ret2;exact⟨rfl,p.out⟩
theorem yR(S:Nat):2+lO false*256+0*512+S*65536+iH (2+lO false*256+0*512+S*65536)%4294967296*4294967296=cC (dV S):=by unfold cC jN dV;simp
theorem vw(A:Option Addr)(ws:List Nat)(c n:Nat)(w:World)(hn:ws.length=n)(h:dX ws=0)(hr:RdW w w.heap.size A ws)(ho:∀x∈ws,x<18446744073709551616):
 Calls prog 134 #[.slice A n c] w λe w'=>dx w.heap.size 0 (dj ws) e w'/\Below w.heap.size w w':=by
 obtain⟨G,-,-,-,-,s,-,k⟩:=fj h;have O:=de ws G;have g:=hid (xh A ws c n w hn h hr ho);have f:Hid (dj ws=[⟨16,0⟩,⟨17,0⟩,⟨18,0⟩]++(if wd ws 18=n then [] else [⟨(wd ws 18:Int),cC (dV (n-wd ws 18))⟩,⟨((wd ws 18+1:Nat):Int),0⟩])):=hid (by
  unfold dj;rw[if_pos h,k,hn];rfl)
 rw[hn] at O s;obtain⟨t,K⟩:=xq (wd ws 18);rw[K] at g f s;clear hr ho h G k hn K;obtain⟨N,L,o,r,p⟩:=kze bB;have R:=hid L;have B:=hid o;have F:=hid r;have z:=hid p;clear L o r p;by_cases v:t=n
 .subst v;rw[if_pos rfl,kzm] at f;go_enter func134,ntmps134;go_wp2_with fail;refine g.out.mono ?_;rintro e j ⟨rfl,b⟩;have a:=hid b;clear b;go_wp2;go_ret2;refine⟨⟨_,_,by rw[f.out];rfl,?_⟩,a.out.alloc a.out.size _⟩;rw[f.out];exact ar (bh (n:=3) (sz:=2) j 89 #[.int .i64 16,.int .u64 0,.int .i64 17,.int .u64 0,.int .i64 18,.int .u64 0] (kqb _) (by rfl) (by unfold maxLen;omega)) a.out.size
 rw[if_neg v] at f;obtain⟨S,H⟩:=xq (n-t);rw[H] at f;have y:=hid (λW=>kG 2 0 S false W (by omega) (by omega) (by omega));rw[yR] at y;obtain⟨V,J⟩:=xq (cC (dV S));rw[J] at f y;have htn:(t:Int)<(n:Int):=by omega
 have hwS:IntKind.i64.wrap ((n:Int)-(t:Int))=(S:Int):=by rw[kqo _ (by omega)];omega
 have heS:(n:Int)-(t:Int)=(S:Int):=by omega
 have hw1:IntKind.i64.wrap ((t:Int)+1)=(t:Int)+1:=kqo _ (by omega);(try simp only[kqy] at y);clear J H;go_enter func134,ntmps134;go_wp2_with fail;refine g.out.mono ?_;rintro e j ⟨rfl,b⟩;have a:=hid b;have HBA:=hid (b.alloc b.size (.cells #[.int .i64 16,.int .u64 0,.int .i64 17,.int .u64 0,.int .i64 18,.int .u64 0] 89));have C:=hid (bh (n:=3) (sz:=2) j 89 #[.int .i64 16,.int .u64 0,.int .i64 17,.int .u64 0,.int .i64 18,.int .u64 0] (kqb _) (by rfl) (by unfold maxLen;omega));clear b;go_wp2_with fail;refine (y.out _).mono ?_;rintro e w3 ⟨rfl,i⟩;have l:=hid ((kqk j.heap.size j).alloc (kqb _) (.cells #[.int .i64 16,.int .u64 0,.int .i64 17,.int .u64 0,.int .i64 18,.int .u64 0] 89) |>.trans (i.mono (by simp)));have q:=hid (ae C.out i (kqb _));have E:=l.out.size;clear i;go_wp2_with (at_builtin;refine kq9 _ rfl _ _ 26 rfl j.heap.size 89 N _ 2 16 underlying26 R.out B.out F.out z.out rfl (by decide) _ _ _ rfl (q.out.alloc _) ⟨_,0,none⟩ 2 2 [.int .i64 (t:Int),.int .u64 (V:Int),.int .i64 ((t:Int)+1),.int .u64 0] rfl rfl (bn _ _ _) (by simp[Value.oneCell']) (by unfold maxLen;omega) (by omega) (by simp;omega) ?_;intro v1 w6 d m _;have D:=hid (am l.out E q.out m);have u:=hid d;clear d m);obtain⟨Q,P,M⟩:=ap u.out;go_ret2;refine⟨⟨Q,P,by rw[f.out,M];rfl,?_⟩,a.out.trans (D.out.mono a.out.size)⟩;rw[f.out];have I:=ar u.out a.out.size;rw[M] at I;exact I
theorem AK(A:Option Addr)(ws:List Nat)(c n:Nat)(q t:Int)(w:World)(hn:ws.length=n)(h:dm ws=0)(hr:RdW w w.heap.size A ws)(ho:∀x∈ws,x<18446744073709551616):
 Calls prog 193 #[.slice A n c,.agg #[.int .i64 q,.int .i64 0,.int .i64 t]] w λe w'=>dx w.heap.size 0 (⟨17,128⟩::dd ws) e w'/\Below w.heap.size w w':=by
 have f:=hid (λW (J:RdW W W.heap.size A ws)=>zz A ws c n W hn h J ho);unfold dx at f;have N:(dd ws).length<=16:=by rw[<-yX h];exact yE ws 16
 obtain⟨E,D⟩:=xq (dd ws);rw[D] at f N |-;have F:=Bx.new w 107 #[.int .i64 q,.int .i64 0,.int .i64 t];have b:=hid ((kqk w.heap.size w).alloc (kqb _) (.cells #[.int .i64 q,.int .i64 0,.int .i64 t] 107));have B:=hid (hr.up b.out b.out.size);have XB:=hid F;clear F hr ho hn h D;obtain⟨G,C,l,o,m⟩:=kze bB;have O:=hid C;have y:=hid l;have z:=hid o;have u:=hid m;clear C l o m;go_enter func193,ntmps193;go_wp2_with fail;refine (f.out _ B.out).mono ?_;rintro e d ⟨⟨M,H,rfl,a⟩,p⟩;have g:=hid (b.out.trans (p.mono b.out.size));have v:=hid (Rd.more (Rd.of_own a) (kqb _));clear a p
 go_wp2_with (at_builtin;refine aI _ (by rfl) _ _ 26 rfl d.heap.size 89 G _ 2 16 underlying26 O.out y.out z.out u.out rfl (by decide) (.slice (some ⟨d.heap.size,0,none⟩) 1 1) 1 [.int .i64 17,.int .u64 128] (by rfl) (bh (n:=1) (sz:=2) d 89 #[.int .i64 17,.int .u64 128] (kqb _) (by rfl) (by unfold maxLen;omega)) d.heap.size (M) (E.length) H (E.flatMap En.cells) (by rfl) (by rw[bY En.cells 2 En.len]) (Rd.alloc (v.out) (kqb _) _) (cn En.one _) (by unfold maxLen;omega) (by omega) (by simp) ?_;intro v1 wa a j;have i:=aM ((kqk d.heap.size d).alloc (kqb _) _) (by simp) (bh (n:=1) (sz:=2) d 89 #[.int .i64 17,.int .u64 128] (kqb _) (by rfl) (by unfold maxLen;omega)) j;have k:=hid a;have s:=hid i;clear a i j);have r:=ar k.out g.out.size;rw[kxs] at r;obtain⟨L,I,rfl⟩:=ap r;have K:=hid r;clear r;go_ret2;exact⟨⟨L,I,rfl,K.out⟩,g.out.trans (s.out.mono g.out.size)⟩
end Go.Proofs.YtpcajamacpbjcaaGreat
