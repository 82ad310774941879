import Derived.Test.YtpcajamacpbjcaaGreatZKHeap
set_option maxHeartbeats 16000000
set_option maxRecDepth 100000
set_option linter.all false
namespace Go.Proofs.YtpcajamacpbjcaaGreat
open Go.RowKit
variable {a f s:Int}{l:List Bk}{G:List Nat}{xs:List Value}{H k n sz:Nat}{α:Type}{e:TypeId}{w:World}
open Go.Proofs.Tryz
def gn (m:Int × Int):List Value:=[.int .i64 m.1,.int .i64 m.2]
theorem tu(m:Int × Int):(gn m).length=2:=rfl
def RdM (w:World) (B:Nat) (A:Option Addr) (l:List (Int × Int)):Prop:=Rd w B A (l.flatMap gn)
theorem RdM.at_{B:Nat}{A:Option Addr}{l:List (Int × Int)}(h:RdM w B A l)(f:k<l.length):
 ∃b a,A=some ⟨b,a,none⟩/\b<B/\w.cell? ⟨b,a+k*2,none⟩=some (.int .i64 l[k].1)/\w.cell? ⟨b,a+k*2+1,none⟩=some (.int .i64 l[k].2):=by obtain⟨b,a,e,d,c⟩:=Rd.at_flat tu h (by omega) f;exact⟨b,a,e,d,c 0 (by omega),c 1 (by omega)⟩
theorem vU:(prog.info? 275).map (λi=>(i.zero,i.size,i.bytes))=some (some (.agg #[.int .i64 0,.int .i64 0]),2,16):=by kernel_rfl
def xh (G:List Nat) (f s:Int) (e:Ending) (w':World):Prop:=∃A c,e=.returned (.tuple #[.slice A (gQ G f s).length c,.int .i64 (bh G f s)])/\RdM w' w'.heap.size A (gQ G f s)/\(gQ G f s).length<=c
theorem lw{r:Int}{w':World}(b:bh G f s=r)(a:r≠0):xh G f s (.returned (.tuple #[.slice none 0 0,.int .i64 r])) w':=by
 subst b;have:gQ G f s=[]:=by simp[gQ,a]
 exact⟨none,0,by rw[this];rfl,by rw[this];exact Rd.nil_,by rw[this];simp⟩
theorem GC(h:gy n f s=true):
 ((f%2 != 0)=true/\(f.tmod 2 != 0)=true) \/
 ((
  f%2 != 0)=false/\(f.tmod 2 != 0)=false)/\(((s%2 != 0)=true/\(s.tmod 2 != 0)=true) \/
  ((s%2 != 0)=false/\(s.tmod 2 != 0)=false)/\(s<128\/128<=s/\f<s\/(128<=s/\s<=f)/\(n:Int)<f)):=by
 rw[lm] at h;rw[qG,qG];by_cases c:f%2=0
 .have a:(f%2 != 0)=false:=by rw[kqt];exact c
  rw[a];refine .inr ⟨⟨rfl,rfl⟩,?_⟩;by_cases d:s%2=0
  .have b:(s%2 != 0)=false:=by rw[kqt];exact d
   rw[b];refine .inr ⟨⟨rfl,rfl⟩,?_⟩;omega
  have b:(s%2 != 0)=true:=by rw[kqx];exact d
  rw[b];exact .inl ⟨rfl,rfl⟩
 have a:(f%2 != 0)=true:=by rw[kqx];exact c
 rw[a];exact .inl ⟨rfl,rfl⟩
theorem Bv(h:am (G.length:Int)=false):bh G f s=8:=by unfold bh;rw[fq,h];rfl
theorem Cb(h:am (G.length:Int)=true)(a:gy G.length f s=true):bh G f s=2:=by unfold bh;rw[fq,h,a];rfl
theorem yx(h:am (G.length:Int)=true)(a:gy G.length f s=false)(b:blocks G f.toNat=none):bh G f s=50:=by unfold bh l7;rw[fq,h,a,b];rfl
theorem BH(h:am (G.length:Int)=true)(a:gy G.length f s=false)(b:blocks G f.toNat=some l)(c:ch G l s=false):bh G f s=50:=by rw[jb (by rw[fq];exact h) a b,c];rfl
theorem Et(h:am (G.length:Int)=true)(c:gy G.length f s=false)(b:blocks G f.toNat=some l)(d:ch G l s=true):bh G f s=0/\gQ G f s=aA l s:=by
 have a:bh G f s=0:=by rw[jb (by rw[fq];exact h) c b,if_pos d]
 exact⟨a,by unfold gQ;rw[if_pos a,b]⟩
theorem rg(h:gy n f s=false):eU n f=false:=by have:=gF h;simp only[eU,kzo,kqb,kqt];omega
theorem GM(f:eX l s=0)(d:k<l.length)(h:ch G (l.take k) s=true):
 (dQ G l[k]=false->ch G l s=false) /\
 (dQ G l[k]=true->aE l[k]=true->l[k].next≠bK l[k] (aN (l.take k) s)->ch G l s=false) /\
 (dQ G l[k]=true->aE l[k]=true->l[k].next=bK l[k] (aN (l.take k) s)->ch G (l.take (k+1)) s=true/\aA (l.take (k+1)) s=aA (l.take k) s++[(l[k].at_,((bK l[k] (aN (l.take k) s):Nat):Int))]) /\
 (dQ G l[k]=true->aE l[k]=false->ch G (l.take (k+1)) s=true/\aA (l.take (k+1)) s=aA (l.take k) s):=by
 obtain⟨j,m,n,_⟩:=dx f;have hb:=iw j (kjn d) m n;have c:=oX (G:=G) d s;have g:=ph d s;rw[h,kzx] at c;have i:aE l[k]=true->bK l[k] (aN (l.take k) s)=(aN (l.take k) s).toNat:=λa=>by unfold bK;rw[if_pos a]
 refine⟨λb=>?_,λb a e=>?_,λb a e=>?_,λb a=>?_⟩
 .refine sq (k:=k+1) ?_;rw[c,b];rfl
 .refine sq (k:=k+1) ?_;rw[i a] at e;rw[c,b,a,show ((l[k].next:Int)==aN (l.take k) s)=false by rw[kqc];omega];rfl
 .rw[i a] at e |-;rw[c,g,b,a,show ((l[k].next:Int)==aN (l.take k) s)=true by rw[kqw];omega,kx8 (by omega)];exact⟨rfl,rfl⟩
 rw[c,g,b,a];exact⟨rfl,by simp⟩
theorem ig(l:List Bk):∀s,(aA l s).length<=l.length:=by
 induction l with
 | nil=>intro s;exact kqa _
 | cons b l a =>
  intro s;simp only[aA];split
  .have:=a (s+b.size);simp only[kq4];omega
  have:=a s;simp only[kq4];omega
theorem ql(A:Option Addr)(G:List Nat)(c n:Nat)(f s:Int)(w:World)(h:G.length=n)(hm:n<=9223372036854775807)(hf : -9223372036854775808<=f/\f<=9223372036854775807)(a : -9223372036854775808<=s/\s<=9223372036854775807)(d:RdW w w.heap.size A G)(b:∀x∈G,x<2^64):
 Calls prog 161 #[.slice A n c,.int .i64 f,.int .i64 s] w λe g=>xh G f s e g/\Below w.heap.size w g:=by
 subst h;obtain⟨HR,HO⟩:=yq0 d b;obtain⟨f1,f2⟩:=hf;obtain⟨s1,s2⟩:=a;clear d b;cases a:am (G.length:Int)
 .obtain⟨HI,HE⟩:=yq0 (bQ a) (Bv (f:=f) (s:=s) a);clear a;go_enter func161,ntmps161;go_wp2_with fail;refine (aJ A G.length c w hm).mono ?_;rintro e w1 ⟨rfl,rfl⟩;rw[HI.out];go_wp2;go_ret2;exact⟨lw HE.out (by omega),kqe _ _⟩
 have HI:=y5 (aM a);obtain⟨Lj,hb2,V⟩:=dA G a;have HS:=y5 a;clear a V;cases N:gy G.length f s
 .have Q:=y5 N;obtain⟨a,b,a3,a4,a5⟩:=gF N;obtain⟨i,rfl⟩:=kqz (show 0<=f by omega);obtain⟨u,rfl⟩:=kqz (show 0<=s by omega);obtain⟨La,Lb,Lh,Lf,Li,Eq⟩:=yq4 (λl (h:blocks G i=some l)=>cC HS.out (rg Q.out) (l:=l) (by rw[kqf];exact h)) (λ(h:blocks G i=none)=>ft HS.out (rg Q.out) (by rw[kqf];exact h)) (λl (h:blocks G i=some l)=>jP (G:=G) (i:=i) (l:=l) (by omega) h (by omega) (by omega) (by omega) (s:=(u:Int)) (by omega) (by omega) (by omega)) (λl (h:blocks G i=some l)=>(bv (G:=G) (by omega) i l h (by omega) (by omega) (by omega)).1) (λl (h:blocks G i=some l) k (hk:k<l.length) h1=>gK (G:=G) h (by omega) (k:=k) hk h1) (ml A G c G.length (i:Int) w rfl hm HR.out HO.out);unfold qV at Eq;have e1:((i:Int)%2 != 0)=false:=by rw[kqt];exact a
  have e2:((u:Int)%2 != 0)=false:=by rw[kqt];exact b
  have d1:decide ((u:Int)<128)=false:=(by rw[kqb];omega);have d2:decide ((i:Int)<(u:Int))=false:=(by rw[kqb];omega);have d2n:decide (i<u)=false:=(by rw[kqb];omega);have d3:decide ((G.length:Int)<(i:Int))=false:=(by rw[kqb];omega);have d3n:decide (G.length<i)=false:=(by rw[kqb];omega);have u0:(0:Int)<=(u:Int):=(by omega);have i0':(0:Int)<=(i:Int):=(by omega);clear N a b;cases R:blocks G i with
  | none =>have HE:=y5 (yx HS.out Q.out (by rw[kqf];exact R));rw[Lb.out R] at Eq;obtain⟨l,a⟩:∃l,aS G (i:Int)=l:=⟨_,rfl⟩;rw[a] at Eq;clear R a;go_enter func161,ntmps161;go_wp2_with fail;refine (aJ A G.length c w hm).mono ?_;rintro e w1 ⟨rfl,rfl⟩;rw[HI.out];go_wp2_with fail;refine Eq.out.mono ?_;rintro e w1 ⟨⟨A1,c1,rfl,-,-⟩,a⟩;go_wp2;go_ret2;exact⟨lw HE.out (by omega),a⟩
  | some l =>
   obtain⟨Ko,Ke⟩:=yq0 R (Lh.out l R);have hlen:=Lf.out l R;obtain⟨g1,g2⟩:=La.out l R;rw[g1,g2] at Eq;have Kn:=y5 (λ(A2:Option Addr) (c2:Nat) (W:World) (h:RdB W W.heap.size A2 l)=>wF A2 l c2 l.length (u:Int) W rfl (by omega) h (by omega));unfold Az at Kn;rw[Ke.out] at Kn;clear R g1 g2;obtain⟨i2,d,a,b,Kk⟩:=kzh vU;obtain⟨HJ,Lc,Ld,Le⟩:=yq2 d a b Kk;clear d a b Kk;go_enter func161,ntmps161;go_wp2_with fail;refine (aJ A G.length c w hm).mono ?_;rintro e w1 ⟨rfl,rfl⟩;rw[HI.out];go_wp2_with fail;refine Eq.out.mono ?_;rintro e w2 ⟨⟨A1,c1,rfl,b,-⟩,Kw⟩;have Kk:=Kw.size;have a:=y5 b;clear b;go_wp2_with fail;refine (Kn.out A1 c1 _ a.out).mono ?_;rintro e w3 ⟨⟨A2,c2,rfl,b,-⟩,Kp⟩;have V:=Kw.trans (Kp.mono Kk);have Kl:=V.size;have Ku:=y5 b;have Kt:=yq9 a Kp;have Kf:=y5 (HR.out.up V Kl);clear b a;obtain⟨pl,a⟩:∃pl,jR l (u:Int)=pl:=⟨_,rfl⟩;rw[a] at Ku |-;have b:pl.length=l.length:=by rw[<-a];simp[jR,Ke.out,de]
   have Ks:=y5 (λk (hk:k<l.length)=>wg Ke.out hk);rw[a] at Ks;rw[b];clear a b;go_wp2_with fail;go_loopw [13,61] (λv i wr=>∃k:Nat,k<=l.length/\i=.int .i64 k/\Hid (ch G (l.take k) (u:Int)=true)/\wr.ownsRow w3.heap.size 275 2 v (aA (l.take k) (u:Int)).length ((aA (l.take k) (u:Int)).flatMap gn)/\Below w3.heap.size w3 wr) (λ_ i _=>l.length-(intOf i).toNat)
   case atStart=>exact⟨0,kqv _,rfl,rfl,kq3 _ _ _ _,kqe _ _⟩
   obtain⟨k,hk,rfl,Kr,o,hB⟩:=hrel;have hz:=hB.size;by_cases Kh:k<l.length
   .obtain ⟨b,off,rfl,hbw,q0,q1,q2,q3,q4,q5⟩:=RdB.at_ (Kt.out.below hB) Kh;obtain⟨Lk,d,Ln⟩:=Ks.out k Kh;obtain⟨J,j,rfl,Kx,p0⟩:=RdI.at_ (Ku.out.below hB) Lk;rw[d] at p0;obtain⟨C,Kg,Km⟩:=yq1 (GM (G:=G) Ke.out Kh Kr.out) (Li.out l Ko.out k Kh) (λh=>BH HS.out Q.out (l:=l) (by rw[kqf];exact Ko.out) h);have a:=ig (l.take k) (u:Int);rw[kq6] at a;obtain⟨m,Ki⟩:∃m,aA (l.take k) (u:Int)=m:=⟨_,rfl⟩;rw[Ki] at o C a;obtain⟨v,g⟩:∃v,bK l[k] (aN (l.take k) (u:Int))=v:=⟨_,rfl⟩;rw[g] at Ln p0 C;obtain⟨x,q⟩:=xq (l[k]);rw[q] at q0 q1 q2 q3 q4 q5 C Kg;obtain⟨y,B,xk,xt,P,r⟩:=x;dsimp only at q0 q1 q2 q3 q4 q5 Kg;have hlm:(k:Int)<(l.length:Int):=(by omega);have hml2:m.length<=2048:=(by omega);have hv2:(v:Int)<=2048:=(by omega);have hv0:(0:Int)<=(v:Int):=(by omega);have hk0:(0:Int)<=(k:Int):=(by omega);have hwv:IntKind.u64.wrap (v:Int)=(v:Int):=kzi _ (by omega);clear q Ki a g d;by_cases Ka:xk=1
    .obtain ⟨t0,t8⟩:=Kg.out Ka;obtain⟨t,rfl⟩:=kqz t0;subst Ka;have HT:=y5 (λW (h:RdW W W.heap.size A G)=>Bo A G c G.length t y B 1 P r W rfl (by omega) Lj (by omega) h HO.out);have Kb:dQ G ⟨y,B,1,(t:Int),P,r⟩=dm G ⟨y,B,1,(t:Int),P,r⟩:=rfl;have Kc:aE ⟨y,B,1,(t:Int),P,r⟩=P:=rfl;rw[Kb,Kc] at C;obtain⟨q,a⟩:∃q,dm G ⟨y,B,1,(t:Int),P,r⟩=q:=⟨_,rfl⟩;rw[a] at C HT;clear a Kb Kc Kg;cases q
     .have HE:=y5 (Km.out (C.out.1 rfl));clear C;go_wp2_with fail;obtain⟨E,I⟩:∃E,wr.alloc (.cells #[.int .i64 y,.int .i64 B,.int .i64 1,.int .i64 (t:Int),.bool P,.int .u64 (r:Int)] 55)=E:=⟨_,rfl⟩;have O:=Bx.new wr 55 #[.int .i64 y,.int .i64 B,.int .i64 1,.int .i64 (t:Int),.bool P,.int .u64 (r:Int)];have h:=hB.alloc hz (.cells #[.int .i64 y,.int .i64 B,.int .i64 1,.int .i64 (t:Int),.bool P,.int .u64 (r:Int)] 55);have d:=o.alloc (.cells #[.int .i64 y,.int .i64 B,.int .i64 1,.int .i64 (t:Int),.bool P,.int .u64 (r:Int)] 55);have H:(wr.alloc (.cells #[.int .i64 y,.int .i64 B,.int .i64 1,.int .i64 (t:Int),.bool P,.int .u64 (r:Int)] 55)).heap.size=wr.heap.size+1:=(by simp);have z:=(kzc wr (.cells #[.int .i64 y,.int .i64 B,.int .i64 1,.int .i64 (t:Int),.bool P,.int .u64 (r:Int)] 55) ⟨J,j+k,none⟩ (by dsimp only;omega)).trans p0;rw[I] at O h d H z |-;clear I;have T:=yq9 Kf h;obtain⟨F,M,BX⟩:=yq1 h d O;obtain⟨Z,x1,x2,x3,x4,x5,-,g⟩:=O.c6;have W:J<E.heap.size:=(by omega);clear h d O o q0 q1 q2 q3 q4 q5 p0;refine kz4 (S:=λX:World=>X.cell? ⟨wr.heap.size,0,none⟩=some (.int .i64 y)/\X.cell? ⟨wr.heap.size,1,none⟩=some (.int .i64 B)/\X.cell? ⟨wr.heap.size,2,none⟩=some (.int .i64 1)/\X.cell? ⟨wr.heap.size,3,none⟩=some (.int .i64 (t:Int))/\X.cell? ⟨wr.heap.size,4,none⟩=some (.bool P)/\X.cell? ⟨wr.heap.size,5,none⟩=some (.int .u64 (r:Int))/\X.cell? ⟨J,j+k,none⟩=some (.int .i64 (v:Int))) (by kernel_rfl) ⟨Z,x1,x2,x3,x4,x5,z⟩ (λD=>?_);show wpAnyH _ _ _ _ _ 18 _ _ _;refine tj 0 (.slice A G.length c) ?_;refine tj 1 (.agg #[.int .i64 y,.int .i64 B,.int .i64 1,.int .i64 (t:Int),.bool P,.int .u64 (r:Int)]) ?_
      dsimp only[Act.put,kqr,kqn,kql,kqd,kqk,kqj];refine kzr (rs:=[2]) (by kernel_rfl) (by simp) ?_;refine AllReadyH.cons rfl (λK hK=>?_) AllReadyH.nil;go_simp;refine (HT.out E.drew (show RdW E.drew E.drew.heap.size A G from T.out)).mono ?_;rintro e w5 ⟨rfl,a⟩;go_simp;have L:=y5 a;refine hK.out _ _ ⟨(a.cell (p:=⟨wr.heap.size,0,none⟩) g).trans Z,(a.cell (p:=⟨wr.heap.size,1,none⟩) g).trans x1,(a.cell (p:=⟨wr.heap.size,2,none⟩) g).trans x2,(a.cell (p:=⟨wr.heap.size,3,none⟩) g).trans x3,(a.cell (p:=⟨wr.heap.size,4,none⟩) g).trans x4,(a.cell (p:=⟨wr.heap.size,5,none⟩) g).trans x5,(a.cell (p:=⟨J,j+k,none⟩) W).trans z⟩ (λU=>?_);clear hK K;refine tj 3 (.bool true) ?_;refine tj 4 (.bool true) ?_;refine sk 5 ?_;refine sk 6 ?_;refine sk 7 ?_;refine sk 8 ?_;refine sk 9 ?_;refine sk 10 ?_;refine sk 11 ?_;refine sk 12 ?_;refine sk 13 ?_;refine sk 14 ?_;refine sk 15 ?_;refine sk 16 ?_;refine tj 17 (.bool true) ?_;dsimp only[Act.put,kqr,kqn,kql,kqd,kqk,kqj];refine kx0 (by kernel_rfl) ?_ _;obtain⟨m0,m1,m2,m3,m4,m5,m6⟩:=U;clear D a Z x1 x2 x3 x4 x5 z;go_simp;go_wp2;go_ret2;exact⟨lw HE.out (by omega),V.trans ((F.out.trans ((kqe _ _).drew.trans (L.out.mono F.out.size))).mono Kl)⟩
     cases P
     .have HY:=y5 (C.out.2.2.2 rfl rfl);clear C;go_wp2_with fail;obtain⟨E,I⟩:∃E,wr.alloc (.cells #[.int .i64 y,.int .i64 B,.int .i64 1,.int .i64 (t:Int),.bool false,.int .u64 (r:Int)] 55)=E:=⟨_,rfl⟩;have O:=Bx.new wr 55 #[.int .i64 y,.int .i64 B,.int .i64 1,.int .i64 (t:Int),.bool false,.int .u64 (r:Int)];have h:=hB.alloc hz (.cells #[.int .i64 y,.int .i64 B,.int .i64 1,.int .i64 (t:Int),.bool false,.int .u64 (r:Int)] 55);have d:=o.alloc (.cells #[.int .i64 y,.int .i64 B,.int .i64 1,.int .i64 (t:Int),.bool false,.int .u64 (r:Int)] 55);have H:(wr.alloc (.cells #[.int .i64 y,.int .i64 B,.int .i64 1,.int .i64 (t:Int),.bool false,.int .u64 (r:Int)] 55)).heap.size=wr.heap.size+1:=(by simp);have z:=(kzc wr (.cells #[.int .i64 y,.int .i64 B,.int .i64 1,.int .i64 (t:Int),.bool false,.int .u64 (r:Int)] 55) ⟨J,j+k,none⟩ (by dsimp only;omega)).trans p0;rw[I] at O h d H z |-;clear I;have T:=yq9 Kf h;obtain⟨F,M,BX⟩:=yq1 h d O;obtain⟨Z,x1,x2,x3,x4,x5,-,g⟩:=O.c6;have W:J<E.heap.size:=(by omega);clear h d O o q0 q1 q2 q3 q4 q5 p0;refine kz4 (S:=λX:World=>X.cell? ⟨wr.heap.size,0,none⟩=some (.int .i64 y)/\X.cell? ⟨wr.heap.size,1,none⟩=some (.int .i64 B)/\X.cell? ⟨wr.heap.size,2,none⟩=some (.int .i64 1)/\X.cell? ⟨wr.heap.size,3,none⟩=some (.int .i64 (t:Int))/\X.cell? ⟨wr.heap.size,4,none⟩=some (.bool false)/\X.cell? ⟨wr.heap.size,5,none⟩=some (.int .u64 (r:Int))/\X.cell? ⟨J,j+k,none⟩=some (.int .i64 (v:Int))) (by kernel_rfl) ⟨Z,x1,x2,x3,x4,x5,z⟩ (λD=>?_);show wpAnyH _ _ _ _ _ 18 _ _ _;refine tj 0 (.slice A G.length c) ?_;refine tj 1 (.agg #[.int .i64 y,.int .i64 B,.int .i64 1,.int .i64 (t:Int),.bool false,.int .u64 (r:Int)]) ?_
      dsimp only[Act.put,kqr,kqn,kql,kqd,kqk,kqj];refine kzr (rs:=[2]) (by kernel_rfl) (by simp) ?_;refine AllReadyH.cons rfl (λK hK=>?_) AllReadyH.nil;go_simp;refine (HT.out E.drew (show RdW E.drew E.drew.heap.size A G from T.out)).mono ?_;rintro e w5 ⟨rfl,a⟩;go_simp;have L:=y5 a;refine hK.out _ _ ⟨(a.cell (p:=⟨wr.heap.size,0,none⟩) g).trans Z,(a.cell (p:=⟨wr.heap.size,1,none⟩) g).trans x1,(a.cell (p:=⟨wr.heap.size,2,none⟩) g).trans x2,(a.cell (p:=⟨wr.heap.size,3,none⟩) g).trans x3,(a.cell (p:=⟨wr.heap.size,4,none⟩) g).trans x4,(a.cell (p:=⟨wr.heap.size,5,none⟩) g).trans x5,(a.cell (p:=⟨J,j+k,none⟩) W).trans z⟩ (λU=>?_);clear hK K;refine tj 3 (.bool false) ?_;refine tj 4 (.bool false) ?_;refine tj 5 (.pointer (some ⟨wr.heap.size,4,none⟩)) ?_;refine tj 6 (.bool false) ?_;refine tj 7 (.bool false) ?_;refine sk 8 ?_;refine sk 9 ?_;refine sk 10 ?_;refine sk 11 ?_;refine sk 12 ?_;refine sk 13 ?_;refine sk 14 ?_;refine sk 15 ?_;refine tj 16 (.bool false) ?_;refine tj 17 (.bool false) ?_;dsimp only[Act.put,kqr,kqn,kql,kqd,kqk,kqj];refine kx0 (by kernel_rfl) ?_ _;obtain⟨m0,m1,m2,m3,m4,m5,m6⟩:=U;clear D a Z x1 x2 x3 x4 x5 z;go_simp;go_wp2;go_roundw;exact⟨k+1,by omega,by go_num,HY.out.1,by rw[HY.out.2];exact ag (show (E.drew).ownsRow _ _ _ _ _ _ from M.out) L.out (kqa _),F.out.trans ((kqe _ _).drew.trans (L.out.mono F.out.size))⟩;simp[intOf];omega
     by_cases Kj:r=v
     .have Lm:((r:Int) != (v:Int))=false:=(by rw[kqt];omega);obtain⟨Lg,HY⟩:=yq0 (qp o) (C.out.2.2.1 rfl rfl Kj);clear C Kj;go_wp2_with fail;obtain⟨E,I⟩:∃E,wr.alloc (.cells #[.int .i64 y,.int .i64 B,.int .i64 1,.int .i64 (t:Int),.bool true,.int .u64 (r:Int)] 55)=E:=⟨_,rfl⟩;have O:=Bx.new wr 55 #[.int .i64 y,.int .i64 B,.int .i64 1,.int .i64 (t:Int),.bool true,.int .u64 (r:Int)];have h:=hB.alloc hz (.cells #[.int .i64 y,.int .i64 B,.int .i64 1,.int .i64 (t:Int),.bool true,.int .u64 (r:Int)] 55);have d:=o.alloc (.cells #[.int .i64 y,.int .i64 B,.int .i64 1,.int .i64 (t:Int),.bool true,.int .u64 (r:Int)] 55);have H:(wr.alloc (.cells #[.int .i64 y,.int .i64 B,.int .i64 1,.int .i64 (t:Int),.bool true,.int .u64 (r:Int)] 55)).heap.size=wr.heap.size+1:=(by simp);have z:=(kzc wr (.cells #[.int .i64 y,.int .i64 B,.int .i64 1,.int .i64 (t:Int),.bool true,.int .u64 (r:Int)] 55) ⟨J,j+k,none⟩ (by dsimp only;omega)).trans p0;rw[I] at O h d H z |-;clear I;have T:=yq9 Kf h;obtain⟨F,M,BX⟩:=yq1 h d O;obtain⟨Z,x1,x2,x3,x4,x5,-,g⟩:=O.c6;have W:J<E.heap.size:=(by omega);clear h d O o q0 q1 q2 q3 q4 q5 p0;refine kz4 (S:=λX:World=>X.cell? ⟨wr.heap.size,0,none⟩=some (.int .i64 y)/\X.cell? ⟨wr.heap.size,1,none⟩=some (.int .i64 B)/\X.cell? ⟨wr.heap.size,2,none⟩=some (.int .i64 1)/\X.cell? ⟨wr.heap.size,3,none⟩=some (.int .i64 (t:Int))/\X.cell? ⟨wr.heap.size,4,none⟩=some (.bool true)/\X.cell? ⟨wr.heap.size,5,none⟩=some (.int .u64 (r:Int))/\X.cell? ⟨J,j+k,none⟩=some (.int .i64 (v:Int))) (by kernel_rfl) ⟨Z,x1,x2,x3,x4,x5,z⟩ (λD=>?_);show wpAnyH _ _ _ _ _ 18 _ _ _;refine tj 0 (.slice A G.length c) ?_;refine tj 1 (.agg #[.int .i64 y,.int .i64 B,.int .i64 1,.int .i64 (t:Int),.bool true,.int .u64 (r:Int)]) ?_
      dsimp only[Act.put,kqr,kqn,kql,kqd,kqk,kqj];refine kzr (rs:=[2]) (by kernel_rfl) (by simp) ?_;refine AllReadyH.cons rfl (λK hK=>?_) AllReadyH.nil;go_simp;refine (HT.out E.drew (show RdW E.drew E.drew.heap.size A G from T.out)).mono ?_;rintro e w5 ⟨rfl,a⟩;go_simp;have L:=y5 a;refine hK.out _ _ ⟨(a.cell (p:=⟨wr.heap.size,0,none⟩) g).trans Z,(a.cell (p:=⟨wr.heap.size,1,none⟩) g).trans x1,(a.cell (p:=⟨wr.heap.size,2,none⟩) g).trans x2,(a.cell (p:=⟨wr.heap.size,3,none⟩) g).trans x3,(a.cell (p:=⟨wr.heap.size,4,none⟩) g).trans x4,(a.cell (p:=⟨wr.heap.size,5,none⟩) g).trans x5,(a.cell (p:=⟨J,j+k,none⟩) W).trans z⟩ (λU=>?_);clear hK K;refine tj 3 (.bool false) ?_;refine tj 4 (.bool false) ?_;refine tj 5 (.pointer (some ⟨wr.heap.size,4,none⟩)) ?_;refine tj 6 (.bool true) ?_;refine tj 7 (.bool true) ?_;refine tj 8 (.pointer (some ⟨wr.heap.size,5,none⟩)) ?_;refine tj 9 (.int .u64 (r:Int)) ?_;refine tj 10 (.slice (some ⟨J,j,none⟩) l.length c2) ?_;refine tj 11 (.int .i64 (k:Int)) ?_;refine tj 12 (.pointer (some ⟨J,j+k,none⟩)) ?_;refine tj 13 (.int .i64 (v:Int)) ?_;refine tj 14 (.int .u64 (v:Int)) ?_;refine tj 15 (.bool false) ?_;refine tj 16 (.bool false) ?_;refine tj 17 (.bool false) ?_
      dsimp only[Act.put,kqr,kqn,kql,kqd,kqk,kqj];refine kx0 (by kernel_rfl) ?_ _;obtain⟨m0,m1,m2,m3,m4,m5,m6⟩:=U;clear D a Z x1 x2 x3 x4 x5 z;go_simp;go_wp2_with fail;have Y:=F.out.trans ((kqe _ _).drew.trans (L.out.mono F.out.size));have Kd:=ag (show (E.drew).ownsRow _ _ _ _ _ _ from M.out) L.out (kqa _);have Lo:=Y.size;have Kz:=bI M.out Kx;have Ky:some wr.heap.size≠Value.ownBlock u13:=Lg.out;have hg5:wr.heap.size<w5.heap.size:=by have:=L.out.size;have:E.drew.heap.size=E.heap.size:=rfl;omega
      have hp5:J<w5.heap.size:=(by omega);have Ll:m.length+1<=maxLen:=by unfold maxLen;omega
      have Ki:(m.length+1)*16<=140737488355328:=(by omega);have Kv:=y5 Y;clear Y m1 m2 m3 m4 m5
      first
       | (go_region_held3 (λX:World=>X.cell? ⟨wr.heap.size,0,none⟩=some (.int .i64 y)/\X.cell? ⟨J,j+k,none⟩=some (.int .i64 (v:Int)))
        (first | go_keep | (
         go_split_ands
         refine⟨?_,?_⟩
         . (rw[Y.cell_far _ (by simp;omega) Ky];assumption)
         (rw[Y.cell_far _ (by simp;omega) Kz];assumption)))
        ((refine step_append_lies _ (by rfl) _ _ _ (by rfl) w3.heap.size 275 i2 _ 2 16 underlying223 HJ.out Lc.out Ld.out Le.out rfl (by omega) u13 m.length (m.flatMap gn) (by rfl) ((show (w5.drew).ownsRow _ _ _ _ _ _ from Kd).alloc _) ⟨w5.heap.size,0,none⟩ 1 1 [.int .i64 y,.int .i64 (v:Int)] (by rfl) (by rfl) (World.news_of_block (cs:=#[.int .i64 y,.int .i64 (v:Int)]) (t:=275) (fr:=(0,0)) (heap_alloc_new w5.drew _)) (by simp[Value.oneCell']) (by omega) Ll Ki (by simp;omega) (w5.heap.size+1) (by simp) ?_;intro gg cap w6 Kq Y hat hlt6)))
       | fail
      go_wp2;go_roundw;exact⟨k+1,by omega,by go_num,HY.out.1,by rw[HY.out.2,kqu,ce];exact Kq,ay (w:=w3) (wr:=w5.drew) (Kv.out.trans (kqe _ _).drew) Lo (show (w5.drew).ownsRow _ _ _ _ _ _ from Kd) Y⟩;simp[intOf];omega
     have Lm:((r:Int) != (v:Int))=true:=(by rw[kqx];omega);have HE:=y5 (Km.out (C.out.2.1 rfl rfl Kj));clear C Kj;go_wp2_with fail;obtain⟨E,I⟩:∃E,wr.alloc (.cells #[.int .i64 y,.int .i64 B,.int .i64 1,.int .i64 (t:Int),.bool true,.int .u64 (r:Int)] 55)=E:=⟨_,rfl⟩;have O:=Bx.new wr 55 #[.int .i64 y,.int .i64 B,.int .i64 1,.int .i64 (t:Int),.bool true,.int .u64 (r:Int)];have h:=hB.alloc hz (.cells #[.int .i64 y,.int .i64 B,.int .i64 1,.int .i64 (t:Int),.bool true,.int .u64 (r:Int)] 55);have d:=o.alloc (.cells #[.int .i64 y,.int .i64 B,.int .i64 1,.int .i64 (t:Int),.bool true,.int .u64 (r:Int)] 55);have H:(wr.alloc (.cells #[.int .i64 y,.int .i64 B,.int .i64 1,.int .i64 (t:Int),.bool true,.int .u64 (r:Int)] 55)).heap.size=wr.heap.size+1:=(by simp);have z:=(kzc wr (.cells #[.int .i64 y,.int .i64 B,.int .i64 1,.int .i64 (t:Int),.bool true,.int .u64 (r:Int)] 55) ⟨J,j+k,none⟩ (by dsimp only;omega)).trans p0;rw[I] at O h d H z |-;clear I;have T:=yq9 Kf h;obtain⟨F,M,BX⟩:=yq1 h d O;obtain⟨Z,x1,x2,x3,x4,x5,-,g⟩:=O.c6;have W:J<E.heap.size:=(by omega);clear h d O o q0 q1 q2 q3 q4 q5 p0;refine kz4 (S:=λX:World=>X.cell? ⟨wr.heap.size,0,none⟩=some (.int .i64 y)/\X.cell? ⟨wr.heap.size,1,none⟩=some (.int .i64 B)/\X.cell? ⟨wr.heap.size,2,none⟩=some (.int .i64 1)/\X.cell? ⟨wr.heap.size,3,none⟩=some (.int .i64 (t:Int))/\X.cell? ⟨wr.heap.size,4,none⟩=some (.bool true)/\X.cell? ⟨wr.heap.size,5,none⟩=some (.int .u64 (r:Int))/\X.cell? ⟨J,j+k,none⟩=some (.int .i64 (v:Int))) (by kernel_rfl) ⟨Z,x1,x2,x3,x4,x5,z⟩ (λD=>?_);show wpAnyH _ _ _ _ _ 18 _ _ _;refine tj 0 (.slice A G.length c) ?_;refine tj 1 (.agg #[.int .i64 y,.int .i64 B,.int .i64 1,.int .i64 (t:Int),.bool true,.int .u64 (r:Int)]) ?_
     dsimp only[Act.put,kqr,kqn,kql,kqd,kqk,kqj];refine kzr (rs:=[2]) (by kernel_rfl) (by simp) ?_;refine AllReadyH.cons rfl (λK hK=>?_) AllReadyH.nil;go_simp;refine (HT.out E.drew (show RdW E.drew E.drew.heap.size A G from T.out)).mono ?_;rintro e w5 ⟨rfl,a⟩;go_simp;have L:=y5 a;refine hK.out _ _ ⟨(a.cell (p:=⟨wr.heap.size,0,none⟩) g).trans Z,(a.cell (p:=⟨wr.heap.size,1,none⟩) g).trans x1,(a.cell (p:=⟨wr.heap.size,2,none⟩) g).trans x2,(a.cell (p:=⟨wr.heap.size,3,none⟩) g).trans x3,(a.cell (p:=⟨wr.heap.size,4,none⟩) g).trans x4,(a.cell (p:=⟨wr.heap.size,5,none⟩) g).trans x5,(a.cell (p:=⟨J,j+k,none⟩) W).trans z⟩ (λU=>?_);clear hK K;refine tj 3 (.bool false) ?_;refine tj 4 (.bool false) ?_;refine tj 5 (.pointer (some ⟨wr.heap.size,4,none⟩)) ?_;refine tj 6 (.bool true) ?_;refine tj 7 (.bool true) ?_;refine tj 8 (.pointer (some ⟨wr.heap.size,5,none⟩)) ?_;refine tj 9 (.int .u64 (r:Int)) ?_;refine tj 10 (.slice (some ⟨J,j,none⟩) l.length c2) ?_;refine tj 11 (.int .i64 (k:Int)) ?_;refine tj 12 (.pointer (some ⟨J,j+k,none⟩)) ?_;refine tj 13 (.int .i64 (v:Int)) ?_;refine tj 14 (.int .u64 (v:Int)) ?_;refine tj 15 (.bool true) ?_;refine tj 16 (.bool true) ?_;refine tj 17 (.bool true) ?_
     dsimp only[Act.put,kqr,kqn,kql,kqd,kqk,kqj];refine kx0 (by kernel_rfl) ?_ _;obtain⟨m0,m1,m2,m3,m4,m5,m6⟩:=U;clear D a Z x1 x2 x3 x4 x5 z;go_simp;go_wp2;go_ret2;exact⟨lw HE.out (by omega),V.trans ((F.out.trans ((kqe _ _).drew.trans (L.out.mono F.out.size))).mono Kl)⟩
    have hk2:(xk != 1)=true:=by rw[kqx];exact Ka
    have Kb:dQ G ⟨y,B,xk,xt,P,r⟩=true:=eY Ka;have Kc:aE ⟨y,B,xk,xt,P,r⟩=false:=by unfold aE;show (xk==1&&P)=false;rw[show (xk==1)=false by rw[kqc];exact Ka];rfl
    have HY:=y5 (C.out.2.2.2 Kb Kc);clear Ka Kb Kc C;go_wp2;go_roundw;exact⟨k+1,by omega,by go_num,HY.out.1,by rw[HY.out.2];exact o.alloc _,hB.alloc hz _⟩;simp[intOf];omega
   have h:=y5 (Et HS.out Q.out (l:=l) (by rw[kqf];exact Ko.out) (by have:=Kr.out;rwa [kza (by omega)] at this));rw[kza (by omega)] at o;obtain⟨j,m,rfl,g,a⟩:=kI o;obtain⟨d,b⟩:=yq0 a g;clear a o g;go_wp2;go_ret2;exact⟨⟨j,m,by rw[h.out.1,h.out.2];rfl,by rw[h.out.2];exact d.out,by rw[h.out.2];exact b.out⟩,V.trans (hB.mono Kl)⟩
 have HE:=y5 (Cb HS.out N);have a:=GC N;clear N;rcases a with⟨g1,g2⟩|⟨⟨g1,g2⟩,⟨d,g⟩|⟨⟨d,g⟩,b|⟨b,h⟩|⟨⟨b,h⟩,g7⟩⟩⟩
 all_goals
  go_enter func161,ntmps161;go_wp2_with fail;refine (aJ A G.length c w hm).mono ?_;rintro e w1 ⟨rfl,rfl⟩;rw[HI.out];go_wp2_with fail
  all_goals
   go_ret2;exact⟨lw HE.out (by omega),kqe _ _⟩
theorem Bf{a b:List α}(d:k<a.length)(e:k<b.length)(h:a.take k=b.take k)(c:a[k]=b[k]):a.take (k+1)=b.take (k+1):=by rw[kqi d,kqi e,h,c]
theorem DO[DecidableEq α]{a b:List α}(hl:a.length=b.length)(h:a.take a.length=b.take a.length):decide (a=b)=true:=by rw[kzb,kza (by omega)] at h;rw[kqh];exact h
theorem Jt[DecidableEq α]{a b:List α}(ha:k<a.length)(hb:k<b.length)(c:a[k]≠b[k]):decide (a=b)=false:=by rw[kqb];rintro rfl;exact c rfl
theorem DC[DecidableEq α]{a b:List α}(h:a.length≠b.length):decide (a=b)=false:=by rw[kqb];rintro rfl;exact h rfl
def OwnW (w:World) (xs:List Nat) (e:Ending) (w':World):Prop:=∃g c,e=.returned (.slice (some ⟨g,0,none⟩) xs.length c)/\w'.ownsRow w.heap.size 53 1 (.slice (some ⟨g,0,none⟩) xs.length c) xs.length (xs.flatMap ap)/\Below w.heap.size w w'
theorem mZ:(prog.info? 53).map (λi=>(i.zero,i.size,i.bytes))=some (some (.int .u64 0),1,8):=by kernel_rfl
theorem kU(G:List Nat)(a v:Nat):(G.set a v).flatMap ap=(G.flatMap ap).set a (.int .u64 (v:Int)):=by
 have:=eN ap 1 cA G a 0 (by omega) v (.int .u64 (v:Int)) (λy _=>rfl)
 simpa using this
theorem oo(G:List Nat):(G.flatMap ap).length=G.length:=by rw[bU ap 1 cA];omega
theorem sj(G:List Nat)(k:Nat)(h:k<G.length):(G.flatMap ap)[k]? = some (.int .u64 (G[k]:Int)):=by
 have:=ja ap 1 cA G k 0 h (by omega)
 simpa [ap] using this
theorem fa{v:Value}(h:w.ownsRow H e sz v n xs)(b:0<n):∃g c,v=.slice (some ⟨g,0,none⟩) n c:=by obtain⟨g,c,a,_⟩:=h.form b;exact⟨g,c,a⟩
theorem gH{g c:Nat}(h:w.ownsRow H e sz (.slice (some ⟨g,0,none⟩) n c) n xs):H<=g:=by
 rcases h.2 with⟨a,_⟩|⟨g',cap',cur,a,hb,_⟩
 .simp at a
 simp only[Value.slice.injEq,Option.some.injEq,Addr.mk.injEq,and_true,true_and] at a;omega
theorem IV(h:bh G f s≠0):(gQ G f s).length=0:=by simp[gQ,h]
theorem FB(G:List Nat)(f s:Int):(gQ G f s).length<=2048:=by
 by_cases h:bh G f s=0
 .obtain ⟨a,b,l,c,h4,d⟩:=cu h;rw[d];have hb:=lA a;have ha:=gF b;have h6:=(bv (by omega) _ _ c (by omega) (by omega) (by omega)).1;have h7:=ig l s;omega
 rw[IV h];omega
def yq (l:List (Int × Int)) (a:Int) (k:Nat):Prop:=gq l a=gq (l.drop k) a
theorem rR{l:List (Int × Int)}(c:k<l.length)(h:yq l a k)(b:l[k].1≠a):yq l a (k+1):=by unfold yq at h |-;rw[h,kz8 c];simp[gq,b]
theorem zM{l:List (Int × Int)}(c:k<l.length)(h:yq l a k)(b:l[k].1=a):gq l a=some l[k].2:=by unfold yq at h;rw[h,kz8 c];simp[gq,b]
theorem uO{l:List (Int × Int)}(h:yq l a l.length):gq l a=none:=by unfold yq at h;rw[h,kj2];rfl
theorem fwTo_c(A:Option Addr)(l:List (Int × Int))(c n H:Nat)(a:Int)(w:World)(d:l.length=n)(hm:n<=1000000)(f:RdM w H A l)(b:H<=w.heap.size):
 Calls prog 284 #[.slice A n c,.int .i64 a] w λe g=>e=.returned (.tuple #[.int .i64 ((gq l a).getD 0),.bool (gq l a).isSome])/\Below w.heap.size w g:=by
 subst d;have u:=y5 (f.more b);have o:Hid (∀k (h:k<l.length),yq l a k->l[k].1=a->gq l a=some l[k].2):=y5 λk h d e=>zM h d e;have p:Hid (yq l a l.length->gq l a=none):=y5 uO;obtain⟨q,d⟩:=xq (gq l a);rw[d] at o p |-;clear f b d;go_enter func284,ntmps284;go_wp2_with fail;go_loopw [10] (λi wr=>∃k:Nat,k<=l.length/\i=.int .i64 k/\Hid (yq l a k)/\Below w.heap.size w wr) (λi _=>l.length-(intOf i).toNat)
 case atStart=>exact⟨0,kqv _,rfl,rfl,kqe _ _⟩
 obtain⟨k,hk,rfl,m,i⟩:=hrel;have r:=i.size;by_cases f:k<l.length
 .obtain ⟨b,off,rfl,hb,s,t⟩:=RdM.at_ (Rd.below u.out i) f;obtain⟨j,e⟩:=yq0 (λh=>rR f m.out h) (λh=>o.out k f m.out h);obtain⟨x,d⟩:=xq (l[k]);rw[d] at s t j e;obtain⟨h,x2⟩:=x;dsimp only at s t j e;have hk1:(k:Int)<(l.length:Int):=(by omega);clear d;by_cases d:h=a
  .have v:(h==a)=true:=by rw[kqw];exact d
   have g:=y5 (e.out d);clear d;go_wp2;go_ret2;exact⟨by rw[g.out];rfl,i.alloc r _⟩
  have v:(h==a)=false:=by rw[kqc];exact d
  have g:=y5 (j.out d);clear d;go_wp2;go_roundw;exact⟨k+1,by omega,by go_num,g.out,i.alloc r _⟩;simp[intOf];omega
 have g:=y5 (p.out (by have:=m.out;rwa [show k=l.length by omega] at this));go_wp2;go_ret2;exact⟨by rw[g.out];rfl,i⟩
theorem Aw{E:List En}(b:k<E.length):au G (E.take (k+1))=if 0<=E[k].a/\E[k].a<(G.length:Int) then (au G (E.take k)).set E[k].a.toNat E[k].v else au G (E.take k):=by rw[kqi b,fh];simp only[au,aG]
theorem ue(E:List En):∀(G:List Nat),(∀x∈G,x<2^64)->(∀e∈E,e.v<18446744073709551616)->∀x∈au G E,x<18446744073709551616:=by
 induction E with
 | nil=>intro G h _;exact h
 | cons e E c =>
  intro G h b;simp only[au];refine c _ ?_ (λx a=>b x (by simp[a]));split
  .intro x a;rcases List.mem_or_eq_of_mem_set a with c|c
   .exact h x c
   have:=b e (by simp);omega
  exact h
def il (x:Nat) (m:Bool):Bk:={ aq x with mark:=m }
def gz (x:Nat) (m:Bool):Nat:=if aD x=true then jr (il x m) else 0
def oO (x:Nat) (m:Bool):Int:=if aD x=true then ju (il x m) else 50
theorem pR(x:Nat)(m:Bool)(w:World)(o:x<18446744073709551616):Calls prog 205 #[.int .u64 (x:Int),.bool m] w λe a=>e=.returned (.tuple #[.int .u64 (gz x m:Nat),.int .i64 (oO x m)])/\Below w.heap.size w a:=by
 have a:=y5 (nc x w o);have c:(aq x).val=.agg #[.int .i64 0,.int .i64 ((x/65536%65536:Nat):Int),.int .i64 ((x%256:Nat):Int),.int .i64 ((x/512%128:Nat):Int),.bool (x/256%2==1),.int .u64 0]:=rfl;have d:(il x m).val=.agg #[.int .i64 0,.int .i64 ((x/65536%65536:Nat):Int),.int .i64 ((x%256:Nat):Int),.int .i64 ((x/512%128:Nat):Int),.bool m,.int .u64 0]:=rfl;cases f:aD x
 .have g:=y5 (show gz x m=0/\oO x m=50 by simp[gz,oO,f]);rw[(mf f).1,(mf f).2] at a;unfold mt Bk.val at a;dsimp only at a;clear f c d o;go_enter func205,ntmps205;go_wp2_with fail;refine a.out.mono ?_;rintro e q ⟨rfl,b⟩;go_wp2;go_ret2;exact⟨by rw[g.out.1,g.out.2];rfl,b.alloc b.size _⟩
 obtain⟨g,h⟩:=yq0 (show gz x m=jr (il x m)/\oO x m=ju (il x m) by simp[gz,oO,f]) (λW=>qv (il x m) W);rw[(kL f).1,(kL f).2,c] at a;rw[d] at h;obtain⟨S,k⟩:∃S,((x/65536%65536:Nat):Int)=S:=⟨_,rfl⟩;obtain⟨K,i⟩:∃K,((x%256:Nat):Int)=K:=⟨_,rfl⟩;obtain⟨T,l⟩:∃T,((x/512%128:Nat):Int)=T:=⟨_,rfl⟩;obtain⟨M,p⟩:=xq ((x/256%2==1));obtain⟨V,n⟩:=xq (jr (il x m));obtain⟨R,j⟩:=xq (ju (il x m));rw[k,i,l,p] at a;rw[k,i,l,n,j] at h;rw[n,j] at g;clear f c d o k i l p n j;go_enter func205,ntmps205;go_wp2_with fail;refine a.out.mono ?_;rintro e q ⟨rfl,b⟩;have f:=b.size;go_wp2_with fail;refine (h.out _).mono ?_;rintro e w2 ⟨rfl,c⟩;have d:=(b.alloc f (.cells #[.int .i64 0,.int .i64 S,.int .i64 K,.int .i64 T,.bool m,.int .u64 0] 55)).trans (c.mono (by simp;omega));go_wp2;go_ret2;exact⟨by rw[g.out.1,g.out.2];rfl,d⟩
end Go.Proofs.YtpcajamacpbjcaaGreat
