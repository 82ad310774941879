import Derived.Test.YtpcajamacpbjcaaGreatZKCursor
import Derived.Test.YtpcajamacpbjcaaGreatZKWnt
import Derived.Test.YtpcajamacpbjcaaGreatZKFix
import Derived.Test.YtpcajamacpbjcaaGreatZGH
set_option maxHeartbeats 16000000
set_option maxRecDepth 100000
set_option linter.all false
namespace Go.Proofs.YtpcajamacpbjcaaGreat
open Go.RowKit
variable {b:Bk}{f t:Int}{E l:List En}{G x xs:List Nat}{H a i j m n p u v:Nat}{e:TypeId}{w:World}
open Go.Proofs.Tryz
def ib (G:List Nat) (a u n i:Nat):List En:=(List.range n).map λj=>if j<i then ⟨((u+j:Nat):Int),wd G (a+j)⟩ else ⟨0,0⟩
def jj (G:List Nat) (a u:Nat):List En:=(List.range (szAt G a)).map λj=>⟨((u+j:Nat):Int),if j=0 then cQ { aq (wd G a) with mark:=false } else if j=1 then 0 else wd G (a+j)⟩
def i9 (G:List Nat) (f t:Int):List En:=if ei G f t=0 then jj G f.toNat t.toNat else []
theorem qd{r:Int}(b:ei G f t=r)(a:r≠0):i9 G f t=[]:=by subst b;simp[i9,a]
theorem fQ(G:List Nat)(a u n i:Nat):(ib G a u n i).length=n:=by simp[ib]
theorem iR(G:List Nat)(a u n i j:Nat)(b:j<n):(ib G a u n i)[j]? = some (if j<i then ⟨((u+j:Nat):Int),wd G (a+j)⟩ else ⟨0,0⟩):=by simp[ib,b]
theorem xV(G:List Nat)(a u n i:Nat)(c:i<n):ib G a u n (i+1)=(ib G a u n i).set i ⟨((u+i:Nat):Int),wd G (a+i)⟩:=by
 apply kjm;intro j;rw[kxl];by_cases b:j<n
 .rw[iR _ _ _ _ _ _ b,iR _ _ _ _ _ _ b];by_cases e:i=j
  .subst e;rw[if_pos (show i<i+1 by omega),if_pos rfl,if_pos (show i<(ib G a u n i).length by rw[fQ];exact c)]
  rw[if_neg e];by_cases h:j<i
  .rw[if_pos h,if_pos (by omega)]
  rw[if_neg h,if_neg (by omega)]
 rw[kzj (by rw[fQ];omega),if_neg (by omega),kzj (by rw[fQ];omega)]
theorem en_set(l:List En)(k:Nat)(x:En):(l.set k x).flatMap En.cells=((l.flatMap En.cells).set (k*2) (.int .i64 x.a)).set (k*2+1) (.int .u64 (x.v:Int)):=by
 have d:=eN En.cells 2 En.len l k 0 (by omega) ⟨x.a,(l[k]?.getD default).v⟩ (.int .i64 x.a) (λy b=>by rw[b];rfl);have c:=eN En.cells 2 En.len (l.set k ⟨x.a,(l[k]?.getD default).v⟩) k 1 (by omega) x (.int .u64 (x.v:Int)) (λy b=>by
  rw[kxl] at b;simp only[if_true] at b;split at b
  .cases b;rfl
  cases b)
 rw[List.set_set] at c;rw[c,d];rfl
theorem CP(l:List En)(k:Nat)(x:En)(v:Nat)(c:l[k]? = some x):(l.set k ⟨x.a,v⟩).flatMap En.cells=(l.flatMap En.cells).set (k*2+1) (.int .u64 (v:Int)):=
 eN En.cells 2 En.len l k 1 (by omega) ⟨x.a,v⟩ (.int .u64 (v:Int)) (λy b=>by rw[c] at b;cases b;rfl)
theorem Jo(e:szAt G a=n)(h2:2<=n):jj G a u=((ib G a u n n).set 0 ⟨(u:Int),cQ { aq (wd G a) with mark:=false }⟩).set 1 ⟨((u+1:Nat):Int),0⟩:=by
 apply kjm;intro j;rw[kxl,kxl];unfold jj;rw[e];by_cases b:j<n
 .rw[iR _ _ _ _ _ _ b,if_pos b];simp only[kxk,kvq b,kzs,kq5,fQ];by_cases c:j=0
  .subst c;simp[b]
  by_cases d:j=1
  .subst d;simp[b]
  rw[if_neg c,if_neg d,if_neg (λh=>d h.symm),if_neg (λh=>c h.symm)]
 rw[if_neg (by omega),if_neg (by omega),kzj (by simp;omega),kzj (by rw[fQ];omega)]
theorem I8(n:Nat):(madeCells #[Value.int .i64 0,.int .u64 0] (n*2)).toList=(List.replicate n (⟨0,0⟩:En)).flatMap En.cells:=by
 apply kjm;intro j;by_cases c:j<n*2
 .have d:j/2<(List.replicate n (⟨0,0⟩:En)).length:=(by rw[kja];omega);have a:=ja En.cells 2 En.len (List.replicate n ⟨0,0⟩) (j/2) (j%2) d (by omega);rw[show j/2*2+j%2=j by omega,List.getElem_replicate] at a;rw[a];have b:(madeCells #[Value.int .i64 0,.int .u64 0] (n*2)).toList[j]? = some (#[Value.int .i64 0,.int .u64 0][j%2]!):=by simp[madeCells,c]
  rw[b];rcases (show j%2=0\/j%2=1 by omega) with h|h<;>rw[h]<;>rfl
 rw[kzj (by rw[kkw,size_madeCells];omega),kzj (by rw[bU En.cells 2 En.len,kja];omega)]
theorem xN(G:List Nat)(a u n:Nat):ib G a u n 0=List.replicate n ⟨0,0⟩:=by
 apply kjm;intro j;by_cases b:j<n
 .rw[iR _ _ _ _ _ _ b];simp[b]
 rw[kzj (by rw[fQ];omega),kzj (by simp;omega)]
theorem ri(h:bh G f t=0){l:List Bk}(c:blocks G f.toNat=some l)(a:l=[]\/(gk l 0).mark=false):ei G f t=6:=by
 unfold ei;rw[if_pos h,c];cases l with
 | nil=>rfl
 | cons b l =>
  rcases a with a|a
  .cases a
  rw[ot] at a;simp[a]
theorem yA(h:bh G f t=0){l:List Bk}(d:blocks G f.toNat=some l)(c:0<l.length)(a:(gk l 0).mark=true):ei G f t=0:=by
 unfold ei;rw[if_pos h,d];cases l with
 | nil=>simp at c
 | cons b l=>rw[ot] at a;simp[a]
theorem Fc(A:Option Addr)(G:List Nat)(c n:Nat)(f t:Int)(w:World)(d:G.length=n)(hm:n<=9223372036854775807)(hf : -9223372036854775808<=f/\f<=9223372036854775807)(ht : -9223372036854775808<=t/\t<=9223372036854775807)(M:RdW w w.heap.size A G)(a:∀x∈G,x<2^64):
 Calls prog 146 #[.slice A n c,.int .i64 f,.int .i64 t] w λe b=>ey w.heap.size (ei G f t) (i9 G f t) e b/\Below w.heap.size w b:=by
 subst d;obtain⟨S,HO,E⟩:=yq1 M a (ql A G c G.length f t w rfl hm hf ht M a);unfold xh at E;have j:=y5 (λW (h:RdW W W.heap.size A G)=>ml A G c G.length f W rfl hm h a);unfold qV at j;clear M a;by_cases o:bh G f t=0
 .obtain ⟨N,g2,l,s,g4,g5⟩:=cu o;rw[fq] at N;obtain⟨f1,f2⟩:=cC N (rg g2) s;rw[o] at E;rw[f1,f2] at j;obtain⟨q,L⟩:=xq ((gQ G f t).length);rw[L] at E;by_cases i:l.length=0
  .have v:=y5 (ri o s (.inl (kxe i)));rw[i] at j;clear N g2 s g4 g5 f1 f2 o L i;go_enter func146,ntmps146;go_wp2_with fail;refine E.out.mono ?_;rintro e w1 ⟨⟨A1,c1,rfl,-,-⟩,d⟩;go_wp2_with fail;refine (j.out _ (S.out.up d d.size)).mono ?_;rintro e w2 ⟨⟨A2,c2,rfl,-,-⟩,h⟩;go_wp2;go_ret2;exact⟨bZ v.out (qd v.out (by omega)),d.trans (h.mono d.size)⟩
  have m:0<l.length:=(by omega);have hne:((l.length:Int)==0)=false:=(by rw[kqc];omega);have hnen:(l.length==0)=false:=by rw[kqc];exact i
  have hl1i:(0:Int)<(l.length:Int):=by omega
  cases g:(gk l 0).mark
  .have v:=y5 (ri o s (.inr g));rw[bG l 0 m] at g;clear N g2 s g4 g5 f1 f2 o L i;go_enter func146,ntmps146;go_wp2_with fail;refine E.out.mono ?_;rintro e w1 ⟨⟨A1,c1,rfl,-,-⟩,d⟩;go_wp2_with fail;refine (j.out _ (S.out.up d d.size)).mono ?_;rintro e w2 ⟨⟨A2,c2,rfl,k,-⟩,h⟩;obtain⟨b,Z,rfl,hb,q0,Q,q2,q3,R,q5⟩:=RdB.at_ k m;rw[g] at R;simp only[kve,kxb] at R;clear q0 Q q2 q3 q5 k g;go_wp2;go_ret2;exact⟨bZ v.out (qd v.out (by omega)),d.trans (h.mono d.size)⟩
  have y:=yA o s m g;obtain⟨a,u,n,rfl,rfl,H,n2,n10,hu,hua,han,z,Ka,-,-,Y⟩:=fO y;rw[kqf] at s;have C:=(cj s (by omega)).2.1;have U:l[0]=bkAt G a:=by rw[<-bG l 0 m,C]
  have X:l[0].size=((n:Nat):Int):=by rw[U,aU,H]
  rw[bG l 0 m] at g;have K:aD (wd G a)=true:=by unfold stands at z;simp only[kqs] at z;exact z.1
  have F:gz (wd G a) false=cQ { aq (wd G a) with mark:=false }/\oO (wd G a) false=0:=by unfold gz oO;rw[if_pos K,if_pos K];have r:jk (il (wd G a) false)=true:=Y;exact⟨by unfold jr;rw[if_pos r];rfl,jh r⟩
  have B:=y5 (λW=>pR (wd G a) false W (fH HO.out a));rw[F.1,F.2] at B;have I:=y5 (Jo (u:=u) H.symm n2);have r:Hid (ei G (a:Int) (u:Int)=0/\i9 G (a:Int) (u:Int)=jj G a u):=y5 ⟨y,by simp[i9,y]⟩;obtain⟨D,V⟩:∃D,cQ { aq (wd G a) with mark:=false }=D:=⟨_,rfl⟩;rw[V] at B I;obtain⟨b0,W,J,Eq,O⟩:=RdW.at_ S.out (show a<G.length by omega);subst J;rw[<-bY] at O;have T:=dA G N;have hlen:G.length<=2048:=T.2.1;have ha0:(0:Int)<=(a:Int):=(by omega);have ha1:(a:Int)<(G.length:Int):=(by omega);have hn0:(0:Int)<=(n:Int):=(by omega);obtain⟨x,hx⟩:=xq (wd G a);rw[hx] at O B;clear N g2 s g4 g5 f1 f2 o y L i C U K F Y V z Ka hx T hf ht H;obtain⟨i0,T,i,s,y⟩:=kzh bE;have z:=y5 (And.intro T (And.intro i (And.intro s y)));clear T i s y;go_enter func146,ntmps146;go_wp2_with fail;refine E.out.mono ?_;rintro e w1 ⟨⟨A1,c1,rfl,-,-⟩,d⟩;go_wp2_with fail;refine (j.out _ (S.out.up d d.size)).mono ?_;rintro e w2 ⟨⟨A2,c2,rfl,k,-⟩,h⟩;have y:=d.trans (h.mono d.size);obtain⟨b,Z,rfl,hb,q0,Q,q2,q3,R,q5⟩:=RdB.at_ k m;rw[g] at R;rw[X] at Q;simp only[kve,kxb] at R Q;have Y:=(y.cell (p:=⟨b0,W+a,none⟩) Eq).trans O;clear q0 q2 q3 q5 k g X;go_wp2_with fail;refine (B.out _).mono ?_;rintro e H ⟨rfl,C⟩;have K:=y.trans (C.mono y.size);have N:=(C.cell (p:=⟨b,Z+1,none⟩) hb).trans Q;obtain⟨W0,g,i,F⟩:=run_make_full (P:=prog) H w.heap.size 26 89 i0 (.agg #[.int .i64 0,.int .u64 0]) 2 underlying26 z.out.1 z.out.2.1 z.out.2.2.1 .i64 .i64 n (by rw[z.out.2.2.2];omega) (by unfold maxLen;omega) K.size;have s:W0.ownsRow w.heap.size 89 2 (.slice (some ⟨H.heap.size,0,none⟩) n n) n ((ib G a u n 0).flatMap En.cells):=by rw[xN,<-I8];exact i
  obtain⟨V,U⟩:=yq0 s (K.grown F K.size (λk hk=>by cases hk));clear i F s C y h d R Q Y;go_wp2_with fail;clear g N;have X:Hid (∀i,i<n->ib G a u n (i+1)=(ib G a u n i).set i ⟨((u+i:Nat):Int),wd G (a+i)⟩):=y5 λi T=>xV G a u n i T;have s:Hid (∀i,((ib G a u n i).flatMap En.cells).length=n*2):=y5 λi=>by rw[bU En.cells 2 En.len,fQ]
  go_loopw [57] (λi wr=>∃k:Nat,k<=n/\i=.int .i64 k/\wr.ownsRow w.heap.size 89 2 (.slice (some ⟨H.heap.size,0,none⟩) n n) n ((ib G a u n k).flatMap En.cells)/\Below w.heap.size w wr) (λi _=>n-(intOf i).toNat)
  case atStart=>exact⟨0,kqv _,rfl,V.out,U.out⟩
  obtain⟨k,hk,rfl,b,Y⟩:=hrel;have C:=gH b;by_cases Z:k<n
  .obtain ⟨b0',off0',J,hb0',O⟩:=RdW.at_ (Rd.below S.out Y) (show a+k<G.length by omega);cases J;rw[<-bY] at O;have N:=y5 (X.out k Z);obtain⟨y,Q⟩:=xq (wd G (a+k));rw[Q] at O N;obtain⟨u0,h⟩:∃u0,((ib G a u n k).flatMap En.cells)[k*2]? = some u0:=⟨_,kqg (by rw[s.out];omega)⟩;obtain⟨F,i⟩:∃F,((ib G a u n k).flatMap En.cells)[k*2+1]? = some F:=⟨_,kqg (by rw[s.out];omega)⟩;have d0:=(b.cellAt (k*2) (by omega)).trans h;have d1:=(b.cellAt (k*2+1) (by omega)).trans i;have e0:=b.frozenAt (k*2);have e1:=b.frozenAt (k*2+1);have g:=y5 b;have hk1:(k:Int)<(n:Int):=(by omega);have hk0:(0:Int)<=(k:Int):=(by omega);have hak:(a:Int)+(k:Int)<(G.length:Int):=(by omega);have hak0:(0:Int)<=(a:Int)+(k:Int):=(by omega);have hakt:((a:Int)+(k:Int)).toNat=a+k:=(by omega);have hwa:IntKind.i64.wrap ((a:Int)+(k:Int))=(a:Int)+(k:Int):=kqo _ (by omega);have hwu:IntKind.i64.wrap ((u:Int)+(k:Int))=(u:Int)+(k:Int):=kqo _ (by omega);clear Q h i b;go_wp2;go_roundw
   case rel =>
    refine⟨k+1,by omega,by go_num,?_,(Y.setCell (p:=⟨H.heap.size,k*2,none⟩) C _).setCell (p:=⟨H.heap.size,k*2+1,none⟩) C _⟩;rw[N.out,en_set];have R:=(((g.out.stored (k*2) (.int .i64 ((u:Int)+(k:Int)))).1).stored (k*2+1) (.int .u64 (y:Int))).1;rw[show (((u+k:Nat)):Int)=(u:Int)+(k:Int) by omega];exact R
   case measure=>simp[intOf];omega
  obtain rfl:k=n:=(by omega);have g0:(ib G a u k k)[0]? = some ⟨((u+0:Nat):Int),wd G (a+0)⟩:=by rw[iR _ _ _ _ _ _ (by omega),if_pos (by omega)]
  obtain⟨F,i⟩:∃F,((ib G a u k k).flatMap En.cells)[1]? = some F:=⟨_,kqg (by rw[s.out];omega)⟩;obtain⟨u3,Q⟩:∃u3,((ib G a u k k).flatMap En.cells)[3]? = some u3:=⟨_,kqg (by rw[s.out];omega)⟩;have d1:=(b.cellAt 1 (by omega)).trans i;have d3:=(b.cellAt 3 (by omega)).trans Q;have e1:=b.frozenAt 1;have e3:=b.frozenAt 3;have hn1i:(1:Int)<(k:Int):=(by omega);have hn0i:(0:Int)<(k:Int):=(by omega);have F:(((ib G a u k k).set 0 ⟨(u:Int),D⟩).set 1 ⟨((u+1:Nat):Int),0⟩).flatMap En.cells=(((ib G a u k k).flatMap En.cells).set 1 (.int .u64 (D:Int))).set 3 (.int .u64 0):=by rw[CP ((ib G a u k k).set 0 ⟨(u:Int),D⟩) 1 ⟨((u+1:Nat):Int),wd G (a+1)⟩ 0 (by rw[kxl,if_neg (by omega),iR _ _ _ _ _ _ (by omega),if_pos (by omega)])];rw[show (⟨(u:Int),D⟩:En)=⟨(⟨((u+0:Nat):Int),wd G (a+0)⟩:En).a,D⟩ from rfl,CP _ 0 _ D g0];rfl
  obtain⟨N,g⟩:=yq0 F b;have h:(jj G a u).length=k:=by rw[I.out,kq5,kq5,fQ]
  have y:=y5 h;clear g0 i Q F b h;go_wp2;go_ret2;have R:=(((g.out.stored 1 (.int .u64 (D:Int))).1).stored 3 (.int .u64 0)).1;rw[<-N.out,<-I.out] at R;refine⟨⟨some ⟨H.heap.size,0,none⟩,k,by rw[r.out.1,r.out.2,y.out];rfl,?_⟩,(Y.setCell (p:=⟨H.heap.size,1,none⟩) C _).setCell (p:=⟨H.heap.size,3,none⟩) C _⟩;rw[r.out.2,y.out];exact R
 have v:=y5 (show ei G f t=bh G f t by unfold ei;rw[if_neg o]);have a:(bh G f t != 0)=true:=by rw[kqx];exact o
 have b:=y5 o;obtain⟨r,M⟩:=xq (bh G f t);obtain⟨q,L⟩:=xq ((gQ G f t).length);rw[M,L] at E;rw[M] at a v b;clear o M L;go_enter func146,ntmps146;go_wp2_with fail;refine E.out.mono ?_;rintro e w1 ⟨⟨A1,c1,rfl,-,-⟩,d⟩;go_wp2;go_ret2;exact⟨bZ v.out (qd v.out b.out),d⟩
theorem ra(A:Option Addr)(G:List Nat)(c n H:Nat)(w:World)(f:G.length=n)(h0:0<n)(hm:n<=1000000)(a:RdW w H A G)(d:H<=w.heap.size):
 Calls prog 70 #[.slice A n c] w λe b=>OwnW w G e b:=by have r:=y5 (a.more d);obtain⟨l,k⟩:=yq0 f (oo G);obtain⟨b,i,rfl,e,-⟩:=RdW.at_ a (show 0<G.length by omega);have h:=λ(W:World)=>Lib.run_eql_slice_nil (P:=prog) (w:=W) 22 53 (some ⟨b,i,none⟩) n c 0 0 underlying22;simp only[Option.isNone_some] at h;clear a d f e;obtain⟨t,f,a,d,e⟩:=kzh mZ;obtain⟨q,m,o,p⟩:=yq2 f a d e;clear f a d e;go_enter func70,ntmps70;go_wp2_with (at_builtin;refine aW _ (by rfl) _ _ 22 rfl w.heap.size 53 t _ 1 8 underlying22 q.out m.out o.out p.out rfl (by decide) (.slice (some ⟨w.heap.size,0,none⟩) 0 0) 0 [] (by rfl) (gc w _ _ _ (kqa _)) w.heap.size (some ⟨b,i,none⟩) n _ (G.flatMap ap) (by rfl) (by rw[k.out,l.out];omega) (Rd.alloc r.out (kqa _) _) (db vn _) (by unfold maxLen;omega) (by omega) (by simp) ?_;intro v1 wa a f;have e:=bi ((kqe w.heap.size w).alloc (kqa _) _) (by simp) (gc w w.heap.size 53 1 (kqa _)) f;simp only[kxg,kz5] at a;obtain⟨g,s,rfl⟩:=fa a (by omega);have d:=y5 a;have j:=y5 e;clear a e f);go_ret;exact⟨g,s,by rw[l.out];rfl,by rw[l.out];exact d.out,j.out⟩
def OwnV (w:World) (xs:List Nat) (e:Ending) (w':World):Prop:=∃g c,e=.returned (.tuple #[.slice (some ⟨g,0,none⟩) xs.length c,.int .i64 0])/\w'.ownsRow w.heap.size 53 1 (.slice (some ⟨g,0,none⟩) xs.length c) xs.length (xs.flatMap ap)/\Below w.heap.size w w'
theorem sPut_c(A B:Option Addr)(G:List Nat)(E:List En)(c d n m H:Nat)(w:World)(a:G.length=n)(h:E.length=m)(g:am (n:Int)=true)(hm2:m<=32)(b:∀e∈E,0<=e.a/\e.a<(n:Int))(l:RdW w H A G)(i:RdE w H B E)(f:H<=w.heap.size):
 Calls prog 53 #[.slice A n c,.slice B m d] w λe j=>OwnV w (au G E) e j:=by
 subst h;obtain⟨b1,b2,-⟩:=(ae _).1 g;obtain⟨T,V,S,HN⟩:=yq2 (aM g) (l.more f) (i.more f) a;have q:Hid (∀k,(au G (E.take k)).length=n):=y5 λk=>by rw[aG,a]
 have y:Hid (∀k (h:k<E.length),0<=E[k].a/\E[k].a<(n:Int)):=y5 λk h=>b _ (kqp h);have C:Hid (∀k (h:k<E.length),au G (E.take (k+1))=(au G (E.take k)).set E[k].a.toNat E[k].v):=y5 λk h=>by rw[Aw h,a,if_pos (b _ (kqp h))]
 have j:=y5 (λW (h:RdW W W.heap.size A G)=>ra A G c n W.heap.size W a (by omega) (by omega) h (kqa _));unfold OwnW at j;rw[a] at j;have h32:decide ((32:Int)<(E.length:Int))=false:=(by rw[kqb];omega);clear l i f a b g;go_enter func53,ntmps53;go_wp2_with fail;refine (aJ A n c w (by omega)).mono ?_;rintro e w1 ⟨rfl,rfl⟩;rw[T.out];go_wp2_with fail;refine (j.out _ V.out).mono ?_;rintro e w2 ⟨g,M,rfl,f,a⟩;obtain⟨o,t⟩:=yq0 f a;clear f a;go_wp2_with fail;go_loopw [22] (λi wr=>∃k:Nat,k<=E.length/\i=.int .i64 k/\wr.ownsRow w.heap.size 53 1 (.slice (some ⟨g,0,none⟩) n M) n ((au G (E.take k)).flatMap ap)/\Below w.heap.size w wr) (λi _=>E.length-(intOf i).toNat)
 case atStart=>exact⟨0,kqv _,rfl,o.out,t.out⟩
 obtain⟨k,hk,rfl,f,s⟩:=hrel;have X:=s.size;have J:=gH f;by_cases l:k<E.length
 .obtain ⟨b,off,rfl,hb,Q,R⟩:=RdE.at_ (Rd.below S.out s) l;have r:=y5 (C.out k l);obtain⟨F,N⟩:=y.out k l;obtain⟨x,P⟩:=xq (E[k]);rw[P] at Q R r F N;obtain⟨xa,L⟩:=x;dsimp only at Q R r F N;obtain⟨a,rfl⟩:=kqz F;rw[kqf] at r;have hk1:(k:Int)<(E.length:Int):=(by omega);have hk0:(0:Int)<=(k:Int):=(by omega);obtain⟨h,i⟩:=xq (au G (E.take k));have I:=q.out k;rw[i] at r f I;have D:=(f.cellAt a (by omega)).trans (sj h a (by omega));have W:=f.frozenAt a;obtain⟨u,O⟩:∃u,((h[a]'(by omega):Nat):Int)=u:=⟨_,rfl⟩;rw[O] at D;have K:g<wr.heap.size:=(f.lt g rfl).2;have c0':=(kzc wr (.cells #[.int .i64 (a:Int),.int .u64 (L:Int)] 89) ⟨g,a,none⟩ K).trans D;have U:=y5 (f.alloc (.cells #[.int .i64 (a:Int),.int .u64 (L:Int)] 89));have f0':=U.out.frozenAt a;have z:=y5 f;clear P O f i D W;go_wp2;go_roundw
  case rel =>
   refine⟨k+1,by omega,by go_num,?_,(s.setCell (p:=⟨g,a,none⟩) J _).alloc (by rw[kxc];exact X) _⟩;rw[r.out,kU];exact (z.out.stored a (.int .u64 (L:Int))).1.alloc _
  case measure=>simp[intOf];omega
 rw[kza (by omega)] at f;have a:=q.out E.length;rw[kzb] at a;go_wp2;go_ret2;exact⟨g,M,by rw[a];rfl,by rw[a];exact f,s⟩
theorem lK(l:List Bk):(∃k,k<l.length/\fv l k/\(gk l k).mark=true)\/fv l l.length:=by
 have a:∀n,n<=l.length->(∃k,k<l.length/\fv l k/\(gk l k).mark=true)\/fv l n:=by
  intro n
  induction n with
  | zero=>intro _;exact .inr (nT l)
  | succ n b =>
   intro hn;rcases b (by omega) with h|h
   .exact .inl h
   cases b:(gk l n).mark with
   | true=>exact .inl ⟨n,by omega,h,b⟩
   | false=>exact .inr (nX h b)
 exact a l.length (kqa _)
theorem ug(a b:List Bk):fC (a++b)=fC a++fC b:=by unfold fC;rw[kxa,kjf]
theorem sY{l:List Bk}:∀ {k},k<=l.length->fv l k->fC (l.take k)=[]:=by
 intro k
 induction k with
 | zero=>intro _ _;rfl
 | succ k b =>
  intro hk h;have a:k<l.length:=(by omega);rw[sE a,b (by omega) (λj hj=>h j (by omega))];have:=h k (by omega);rw[bG l k a] at this;simp[this]
theorem Bc(b:Bk)(l:List Bk):(fC (b::l)).length=(if b.mark=true then 1 else 0)+(fC l).length:=by
 unfold fC;cases h:b.mark
 .simp[h]
 simp[h];omega
theorem od(x:am (G.length:Int)=true){l:List Bk}(h1:128<=a)(h2:a<=G.length)(w:a%2=0)(j:blocks G a=some l)(n:0<(fC l).length):
 ∃(m z:Nat) (l':List Bk),bu G (a:Int)=0/\(iI G (a:Int)).at_=(m:Int)/\(iI G (a:Int)).size=(z:Int)/\a<=m/\2<=z/\m+z<=G.length/\(m+z)%2=0/\blocks G (m+z)=some l'/\(fC l').length+1=(fC l).length:=by
 have c:eU G.length (a:Int)=false:=by simp only[eU,kzo,kqb,kqt];omega
 obtain⟨u,v⟩:=cC (a:=(a:Int)) x c (by rw[kqf];exact j);rcases lK l with⟨k,d,f,b⟩|f
 .obtain ⟨g,p⟩:=qn u v d f b;obtain⟨m,i,f2,q,r,s,t⟩:=bN _ _ j w k d;have o:=aC s;rw[bG l k d] at g b;have h:=cj t r;refine⟨m,szAt G m,l.drop (k+1),p,by rw[g,i];rfl,by rw[g,i];rfl,q,o.1,o.2.2,by omega,?_,?_⟩
  .rw[h.2.2.2,kxr]
  have e:l=l.take k++(l[k]::l.drop (k+1)):=by rw[<-kz8 d,kz6]
  have:(fC l).length=(fC (l.take k++(l[k]::l.drop (k+1)))).length:=by rw[<-e]
  rw[this,ug,kqu,sY (by omega) f,Bc,b];simp;omega
 have:=sY (kqa _) f;rw[kzb] at this;rw[this] at n;simp at n
theorem yX(h:aB G=0)(u:¬ wd G 16<3):am (G.length:Int)=true/\(wd G 16=3\/wd G 16=4)/\∃a:Nat,fY G=(a:Int)/\128<=a/\a<=G.length/\a%2=0/\∃l,blocks G a=some l/\lfN G=(fC l).length:=by
 have o:=jH h;obtain⟨A,B⟩:=dN o;obtain⟨n,C,D⟩:=cR A;obtain⟨⟨l0,r,l2⟩,-⟩:=(bo G).1 C;have hbd:=dA G n;have E:=Cl h u;have d:∀a:Nat,fY G=(a:Int)->128<=a->a<=G.length->a%2=0->∀l,blocks G a=some l->∃a:Nat,fY G=(a:Int)/\128<=a/\a<=G.length/\a%2=0/\∃l,blocks G a=some l/\lfN G=(fC l).length:=by
  intro a c f g i l e;refine⟨a,c,f,g,i,l,e,?_⟩;have b:eU G.length (a:Int)=false:=by simp only[eU,kzo,kqb,kqt];omega
  rw[E,c,(cC (a:=(a:Int)) n b (by rw[kqf];exact e)).2]
 rcases (cy _ _ _).1 D with⟨x,v,w,i3⟩|⟨s,v,w⟩|⟨I,-⟩
 .refine ⟨n,.inr x,?_⟩;have g:=(a9 _).1 v;have q:bh G (wd G 17:Nat) (wd G 18:Nat)=0:=by
   unfold aB at h;rw[if_pos o,if_pos x] at h;split at h
   .exact h
   simp at h
  obtain⟨-,-,l,e,-⟩:=cu q;rw[kqf] at e;exact d (wd G 17) (by unfold fY;rw[if_neg (by omega)]) g.1 r g.2.2 l e
 .refine ⟨n,.inl s,?_⟩;have q:bh G 128 128=0:=by unfold aB at h;rwa [if_pos o,if_neg (by omega),if_pos s] at h
  obtain⟨-,-,l,e,-⟩:=cu q;have f:blocks G 128=some l:=e;by_cases y:wd G 17=0
  .exact d 128 (by unfold fY;rw[if_pos (by omega)];rfl) (by omega) (by omega) (by omega) l f
  have g:=(a9 _).1 (w.resolve_left y);have i:fY G=((wd G 17:Nat):Int):=by unfold fY;rw[if_neg (by omega)]
  have c:=B s y;unfold mU at c;rw[f] at c;have c:(l.any (λb=>b.at_==((wd G 17:Nat):Int))||wd G 17==G.length)=true:=c;rw[kxw,kx1] at c;rcases c with⟨b,H,j⟩|j
  .obtain ⟨k,F,rfl⟩:=kqy H;obtain⟨m,z,f2,f3,f4,f5,t⟩:=bN _ _ f (by omega) k F;rw[kqw,z] at j;have p:m=wd G 17:=by have:((m:Nat):Int)=((wd G 17:Nat):Int):=j;omega
   rw[p] at t;exact d (wd G 17) i g.1 r g.2.2 _ t
  rw[kqw] at j;exact d (wd G 17) i g.1 r g.2.2 [] (aH (by omega))
 exact absurd I u
def phE (p f t:Nat):List En:=[⟨16,p⟩,⟨17,f⟩,⟨18,t⟩]
theorem gh(j v:Nat)(l:List En)(h:j<G.length):au G (⟨(j:Int),v⟩::l)=au (G.set j v) l:=by simp only[au];rw[if_pos (by omega),kqf]
def iA (l:List En) (p:Nat):List En:=if 32<=l.length then l.take 31 else ⟨16,p⟩::l
def cc:List En:=[⟨16,4⟩,⟨17,128⟩,⟨18,128⟩]
theorem fA(h:bu G (a:Int)=0):am (G.length:Int)=true/\128<=a/\a%2=0/\∃m:Nat,iI G (a:Int)=bkAt G m/\a<=m/\m%2=0/\2<=szAt G m/\szAt G m%2=0/\m+szAt G m<=G.length/\stands G m=true/\(bkAt G m).mark=true/\(bkAt G m).kind=1/\∃l,blocks G a=some l/\cp G (a:Int)=0/\aS G (a:Int)=l/\∃k,k<l.length/\fv l k/\blocks G m=some (l.drop k):=by
 have d:cp G (a:Int)=0:=by
  by_cases b:cp G (a:Int)=0
  .exact b
  rw[(uZ rfl b).2] at h;exact absurd h b
 have j:am (G.length:Int)=true:=by
  cases b:am (G.length:Int) with
  | true=>rfl
  | false=>rw[f8 b] at d;cases d
 have c:eU G.length (a:Int)=false:=by
  cases b:eU G.length (a:Int) with
  | false=>rfl
  | true=>rw[jy j b] at d;cases d
 have ha:=j8 c;cases n:blocks G a with
 | none=>rw[ft j c (by rw[kqf];exact n)] at d;cases d
 | some l =>
  have e:=cC (a:=(a:Int)) j c (l:=l) (by rw[kqf];exact n);rcases lK l with⟨k,f,i,g⟩|i
  .obtain ⟨p,-⟩:=qn d e.2 f i g;obtain⟨m,q,s,t,f4,r,u⟩:=bN _ _ n (by omega) k f;have o:=aC r;have b:=IN d (k:=k) (by rw[e.2];exact f);rw[e.2] at b;rw[bG l k f] at p g b;rw[q] at g b;rw[g] at b;simp only[kvz,kvm,kqw] at b;exact⟨j,by omega,by omega,m,by rw[p,q],t,s,o.1,o.2.1,o.2.2,r,g,b,l,rfl,d,e.2,k,f,i,u⟩
  rw[(Ap d e.2 i).2] at h;cases h
def fixL (G:List Nat):Nat->Nat->Int × List En
 | 0,_=>(0,cc)
 | f+1,a=>if bu G (a:Int)=0 then (if cm G (iI G (a:Int)).at_=[] then fixL G f ((iI G (a:Int)).at_+(iI G (a:Int)).size).toNat
  else if cM G (iI G (a:Int)).at_=0 then (0,⟨17,((iI G (a:Int)).at_+(iI G (a:Int)).size).toNat⟩::cB G (iI G (a:Int)).at_)
  else (cM G (iI G (a:Int)).at_,[])) else (0,cc)
theorem CH :∀ {f a g:Nat},G.length-a<f->G.length-a<g->fixL G f a=fixL G g a:=by
 intro f
 induction f with
 | zero=>intro a g h;omega
 | succ f i =>
  intro a g h hg;cases g with
  | zero=>omega
  | succ g =>
   simp only[fixL];by_cases b:bu G (a:Int)=0
   .obtain ⟨hs,a1,a2,m,e,m1,m2,m3,m4,m5,-⟩:=fA b;have d:((iI G (a:Int)).at_+(iI G (a:Int)).size).toNat=m+szAt G m:=by rw[e,af,aU];omega
    rw[if_pos b,if_pos b,d];by_cases c:cm G (iI G (a:Int)).at_=[]
    .rw[if_pos c,if_pos c];exact i (by omega) (by omega)
    rw[if_neg c,if_neg c]
   rw[if_neg b,if_neg b]
def jp (G:List Nat) (a:Nat):Int × List En:=fixL G (G.length+1) a
theorem iX(h:bu G (a:Int)≠0):jp G a=(0,cc):=by unfold jp;rw[fixL,if_neg h]
theorem jA(h:bu G (a:Int)=0)(e:iI G (a:Int)=bkAt G m)(f:cm G (m:Int)=[]):jp G a=jp G (m+szAt G m):=by
 obtain⟨hs,a1,a2,b,d,m1,m2,m3,m4,m5,-⟩:=fA h;have c:b=m:=by have:=congrArg Bk.at_ (e.symm.trans d);rw[af,af] at this;omega
 subst c;unfold jp;rw[fixL,if_pos h,e,af,if_pos f,aU,show (((b:Int)+((szAt G b:Nat):Int)).toNat)=b+szAt G b by omega];exact CH (by omega) (by omega)
theorem qP(h:bu G (a:Int)=0)(e:iI G (a:Int)=bkAt G m)(b:cm G (m:Int)≠[])(c:cM G (m:Int)≠0):jp G a=(cM G (m:Int),[]):=by unfold jp;rw[fixL,if_pos h,e,af,if_neg b,if_neg c]
theorem nD(h:bu G (a:Int)=0)(e:iI G (a:Int)=bkAt G m)(b:cm G (m:Int)≠[])(c:cM G (m:Int)=0):jp G a=(0,⟨17,m+szAt G m⟩::cB G (m:Int)):=by unfold jp;rw[fixL,if_pos h,e,af,if_neg b,if_pos c,aU,show (((m:Int)+((szAt G m:Nat):Int)).toNat)=m+szAt G m by omega]
def sgFix (G:List Nat):Int × List En:=if wd G 17=0 then (if dh G=0 then (0,⟨17,128⟩::dg G) else (dh G,[])) else jp G (wd G 17)
def sgSld (G:List Nat):Int × List En:=if bu G ((wd G 17:Nat):Int)=0 then
 (if ei G (iI G ((wd G 17:Nat):Int)).at_ ((wd G 18:Nat):Int)=0 then (0,⟨17,((iI G ((wd G 17:Nat):Int)).at_+(iI G ((wd G 17:Nat):Int)).size).toNat⟩::⟨18,(((wd G 18:Nat):Int)+(iI G ((wd G 17:Nat):Int)).size).toNat⟩::i9 G (iI G ((wd G 17:Nat):Int)).at_ ((wd G 18:Nat):Int))
 else (ei G (iI G ((wd G 17:Nat):Int)).at_ ((wd G 18:Nat):Int),[])) else (6,[])
noncomputable def ah (G:List Nat):Int × List En:=if aB G=0 then
 (if wd G 16=1 then (if aK G=0 then (0,iA (aO G) 2) else (aK G,[]))
 else if wd G 16=2 then (if ao G=0 then (0,iA (aI G) 3) else (ao G,[]))
 else if wd G 16=3 then sgFix G
 else if wd G 16=4 then sgSld G else (6,[])) else (aB G,[])
theorem cD(h:32<=l.length):iA l p=l.take 31:=by unfold iA;rw[if_pos h]
theorem ii(h:¬ 32<=l.length):iA l p=⟨16,p⟩::l:=by unfold iA;rw[if_neg h]
theorem jd{x:Nat}(h:aD x=true)(e:(aq x).kind=1)(m:Bool):aD (gz x m)=true/\aq (gz x m)={ aq x with mark:=m }/\oO x m=0/\gz x m<18446744073709551616:=by
 have d:jk (aq x)=true:=by unfold aD at h;simp only[kqs] at h;exact h.1
 have a:jk (il x m)=true:=by
  have c:=(bC _).1 d;rw[bC];unfold il;dsimp only;refine⟨c.1,.inl ?_⟩;rcases c.2 with b|b
  .exact b
  rw[e] at b;exact absurd b.1 (by decide)
 have b:gz x m=cQ (il x m):=by unfold gz jr;rw[if_pos h,if_pos a]
 refine⟨by rw[b];exact pP a,?_,by unfold oO;rw[if_pos h];exact jh a,by rw[b];exact qM a⟩;rw[b,kK a];rfl
theorem n9{x:Nat}(h:aD x=true):2048<x:=by unfold aD at h;simp only[kqs] at h;have a:=(bC _).1 h.1;have b:(aq x).size=((x/65536%65536:Nat):Int):=rfl;rw[b] at a;omega
structure Rm (G xs:List Nat):Prop where
 len:xs.length=G.length
 at_:∀i,wd xs i=wd G i\/(128<=i/\i%2=0/\aD (wd G i)=true/\(aq (wd G i)).kind=1/\∃m,wd xs i=gz (wd G i) m)
section
variable {G xs:List Nat}
theorem Rm.low(h:Rm G xs)(hi:i<128):wd xs i=wd G i:=by
 rcases h.at_ i with a|a
 .exact a
 omega
theorem Rm.odd(h:Rm G xs)(hi:i%2=1):wd xs i=wd G i:=by
 rcases h.at_ i with a|a
 .exact a
 omega
theorem Rm.sp(h:Rm G xs)(i:Nat):aD (wd xs i)=aD (wd G i):=by
 rcases h.at_ i with b|⟨-,-,a,c,m,d⟩
 .rw[b]
 rw[d,a,(jd a c m).1]
def sw (xs:List Nat) (i:Nat):Bool:=(aq (wd xs i)).mark
theorem Rm.raw(h:Rm G xs)(i:Nat):aq (wd xs i)={ aq (wd G i) with mark:=sw xs i }:=by
 unfold sw;rcases h.at_ i with a|⟨-,-,b,c,m,d⟩
 .rw[a]
 rw[d,(jd b c m).2.1]
theorem Rm.sz(h:Rm G xs)(i:Nat):(aq (wd xs i)).size=(aq (wd G i)).size:=by rw[h.raw i]
theorem Rm.szAt(h:Rm G xs)(i:Nat):szAt xs i=szAt G i:=by have a:=h.sz i;have e:∀w,(aq w).size=((w/65536%65536:Nat):Int):=λ_=>rfl;rw[e,e] at a;unfold Proofs.YtpcajamacpbjcaaGreat.szAt;exact Int.ofNat.inj a
theorem Rm.stands(h:Rm G xs)(i:Nat):stands xs i=stands G i:=by unfold Proofs.YtpcajamacpbjcaaGreat.stands;rw[h.sp,h.sz,h.len]
def mkB (xs:List Nat) (b:Bk):Bk:={ b with mark:=sw xs b.at_.toNat }
theorem Rm.bkAt(h:Rm G xs)(hi:i%2=0):bkAt xs i=mkB xs (bkAt G i):=by
 unfold mkB;have a:(Proofs.YtpcajamacpbjcaaGreat.bkAt G i).at_.toNat=i:=by rw[af,kqf]
 rw[a];unfold Proofs.YtpcajamacpbjcaaGreat.bkAt;rw[h.raw i,h.odd (i:=i+1) (by omega)]
theorem Rm.blocks(h:Rm G xs):∀i l,blocks G i=some l->i%2=0->blocks xs i=some (l.map (mkB xs)):=by
 refine dX (λi l=>i%2=0->Proofs.YtpcajamacpbjcaaGreat.blocks xs i=some (l.map (mkB xs))) (λi a _=>?_) (λi l a c hb b d=>?_)
 .exact aH (by rw[h.len];exact a)
 have hsz:=aC c;have b:=b (by omega);rw[aT (by rw[h.len];exact a) (by rw[h.stands];exact c),h.szAt,b,h.bkAt d];rfl
theorem As(n:Nat)(l:List Bk):p9 n (l.map (mkB xs))=p9 n l:=by unfold p9;rw[List.foldl_map];rfl
theorem GW(h:Rm G xs)(c:b.kind=1->tyA b+1<128):dQ xs (mkB xs b)=dQ G b:=by
 have e:=Dq (G:=G) (xs:=xs) (λj a=>h.low a) c;by_cases a:b.kind=1
 .have h2:=c a;unfold dQ dm;show (b.kind != 1||(b8 (wd xs (tyA b)) (wd xs (tyA b+1))&&b.size==((bp (wd xs (tyA b)%256):Nat):Int)))=_;rw[h.low (by omega),h.low (by omega)]
 rw[eY a,eY (b:=mkB xs b) a]
theorem Rm.heap(h:Rm G xs)(e:ao G=0):ao xs=0/\aa xs=(aa G).map (mkB xs):=by obtain⟨f,l,c,d,g⟩:=ax e;have i:=h.blocks 128 l c (by omega);rw[g];refine gI (by rw[h.len];exact f) i ?_;rw[List.all_map,kzt];rw[kzt] at d;intro b a;show dQ xs (mkB xs b)=true;rw[GW h (jN c (by omega) b a)];exact d b a
theorem Rm.tb(h:Rm G xs)(b:ao G=0)(a:Nat):tb xs a=tb G a:=by unfold Proofs.YtpcajamacpbjcaaGreat.tb;rw[(h.heap b).2,h.len,As]
theorem Rm.slAt(h:Rm G xs)(hi:i<16):slAt xs i=slAt G i:=by unfold Proofs.YtpcajamacpbjcaaGreat.slAt;rw[h.low (by omega)]
theorem Rm.slsOk(h:Rm G xs):slsOk xs=slsOk G:=by
 rw[kzk,cO,cO];unfold oI;constructor
 .intro b i a;rw[<-h.slAt a];exact b i a
 intro b i a;rw[h.slAt a];exact b i a
theorem ou(h:fG G a):(aq (wd G a)).typ.toNat<8:=by have h7:=(bC _).1 (gl h.2.2.2.1);have h5:=h.2.2.2.2.1;omega
theorem Rm.flds(h:Rm G xs)(b:ao G=0)(c:Proofs.YtpcajamacpbjcaaGreat.tb G a≠0):flds xs a=flds G a:=by obtain⟨d,-⟩:=iy b c;have:=ou d;unfold Proofs.YtpcajamacpbjcaaGreat.flds;rw[h.raw a];dsimp only;rw[h.low (by omega),h.low (by omega)]
theorem Rm.ref(h:Rm G xs)(j:qT G)(c:ao G=0)(f:Rch G a)(k:Proofs.YtpcajamacpbjcaaGreat.tb G a≠0)(g:(Proofs.YtpcajamacpbjcaaGreat.flds G a)[i]? = some 3):wd xs (a+2+i)=wd G (a+2+i):=by
 rcases h.at_ (a+2+i) with d|⟨-,-,e,-⟩
 .exact d
 exfalso;have hb:=n9 e;have b:=j _ (Rch.ref a i f k g (by omega));rw[kvj (by omega)] at b;have:=tT b;have:=(dA G (ax c).1).2.1;omega
theorem Rm.rch(h:Rm G xs)(l:qT G)(c:ao G=0)(a:Nat):Rch xs a↔Rch G a:=by
 constructor
 .intro d
  induction d with
  | slot i f g=>rw[h.slAt f] at g |-;exact Rch.slot i f g
  | ref a i d b e j k =>rw[h.tb c] at b;rw[h.flds c b] at e;rw[h.ref l c k b e] at j |-;exact Rch.ref a i k b e j
 intro d
 induction d with
 | slot i f g=>rw[<-h.slAt f] at g |-;exact Rch.slot i f g
 | ref a i d b e j k =>rw[<-h.ref l c d b e] at j |-;exact Rch.ref a i k (by rw[h.tb c];exact b) (by rw[h.flds c b];exact e) j
theorem aL(h:aK G=0):ao G=0/\slsOk G=true/\qT G:=by
 unfold aK at h;by_cases a:ao G=0
 .rw[if_pos a] at h;by_cases b:Proofs.YtpcajamacpbjcaaGreat.slsOk G=true
  .rw[if_pos b] at h;by_cases c:qT G
   .exact ⟨a,b,c⟩
   rw[if_neg c] at h;cases h
  rw[if_neg b] at h;cases h
 rw[if_neg a] at h;exact absurd h a
theorem Rm.same(h:Rm G xs)(c:aK G=0):aK xs=0/\fB xs=fB G/\seenL xs=seenL G/\ao xs=0/\aa xs=(aa G).map (mkB xs):=by
 obtain⟨b,j,d⟩:=aL c;have g:=h.rch d b;have f:=h.heap b;have k:qT xs:=λa e=>by rw[h.tb b];exact d a ((g a).1 e)
 have e:aK xs=0:=FJ f.1 (by rw[h.slsOk];exact j) k;have i:seenL xs=seenL G:=by unfold seenL;rw[h.len];refine kxi λa _=>?_;exact decide_eq_decide.2 (g a)
 refine⟨e,?_,i,f⟩;rw[fk e,fk c,i,h.len]
end
theorem IW:∀ {a b:List Int},a.Pairwise (· < ·)->b.Pairwise (· < ·)->(∀x,x∈a↔x∈b)->a=b:=by
 intro a
 induction a with
 | nil =>
  intro b _ _ h;cases b with
  | nil=>rfl
  | cons y b=>exact absurd ((h y).2 (by simp)) (by simp)
 | cons x a i =>
  intro b e f h;cases b with
  | nil=>exact absurd ((h x).1 (by simp)) (by simp)
  | cons y b =>
   rw[kj9] at e f;have g:x=y:=by
    have c:=(h x).1 (by simp);have d:=(h y).2 (by simp);rw[kq0] at c d;rcases c with c|c
    .exact c
    rcases d with d|d
    .exact d.symm
    have:=f.1 _ c;have:=e.1 _ d;omega
   subst g;rw[i e.2 f.2 (λz=>?_)];have g:=h z;rw[kq0,kq0] at g;constructor
   .intro c;have:=e.1 _ c;rcases g.1 (.inr c) with d|d
    .omega
    exact d
   intro c;have:=f.1 _ c;rcases g.2 (.inr c) with d|d
   .omega
   exact d
theorem eJ(l:List En):∀G:List Nat,l.Pairwise (λa b=>a.a<b.a)->∀e∈l,0<=e.a->e.a<(G.length:Int)->wd (au G l) e.a.toNat=e.v:=by
 induction l with
 | nil=>intro G _ e a;simp at a
 | cons x l g =>
  intro G c e a d b;rw[kj9] at c;simp only[au];rcases kq0.1 a with rfl|a
  .rw[bj l _ _ (λy f=>by have:=c.1 y f;omega),if_pos ⟨d,b⟩];unfold wd;rw[kz0 (by omega)];rfl
  refine g _ c.2 e a d ?_;split
  .rw[kq5];exact b
  exact b
theorem lT :∀i l,blocks G i=some l->(∀b∈l,(i:Int)<=b.at_)/\l.Pairwise (λa b=>a.at_<b.at_):=by
 refine dX _ (λi _=>⟨λb h=>by simp at h,List.Pairwise.nil⟩) (λi l hi c hb a=>?_);have hsz:=aC c;refine⟨λb h=>?_,List.Pairwise.cons (λb h=>?_) a.2⟩
 .rcases kq0.1 h with rfl|h
  .rw[af];omega
  have:=a.1 b h;omega
 have:=a.1 b h;rw[af];omega
theorem cH(h:ao G=0):(∀b∈aa G,∃a:Nat,b=bkAt G a/\128<=a/\a%2=0/\a<G.length/\stands G a=true)/\(aa G).Pairwise (λa b=>a.at_<b.at_):=by obtain⟨h1,l,c,h3,g⟩:=ax h;rw[g];refine⟨λb b=>?_,(lT _ _ c).2⟩;obtain⟨k,i,rfl⟩:=kqy b;obtain⟨a,b,d,e3,e,f,-⟩:=bN _ _ c (by omega) k i;exact⟨a,b,by omega,d,e,f⟩
theorem tN(h:aK G=0)(g:Rch G a):∃b∈aa G,b=bkAt G a/\b.kind=1/\fG G a:=by obtain⟨d,h2,f⟩:=aL h;obtain⟨c,-⟩:=iy d (f a g);obtain⟨k,i,e,-⟩:=c.2.2.2.2.2.2;exact⟨_,kqp i,e,by rw[e];exact c.2.2.2.2.1,c⟩
noncomputable def dH (G:List Nat) (b:Bk):Bool:=(seenL G)[b.at_.toNat]?.getD false
theorem dV(h:a<G.length):dH G (bkAt G a)=true↔Rch G a:=by unfold dH;rw[af,kqf];exact kS h
theorem CS(h:aK G=0)(f:b∈aa G)(d:dK (seenL G) b=false):b.kind=1:=by
 obtain⟨g,-,-⟩:=aL h;obtain⟨a,rfl,a1,a2,j,a4⟩:=(cH g).1 b f;cases i:(bkAt G a).mark with
 | true =>obtain⟨_,l,c,-,e⟩:=ax g;rw[e] at f;exact lu c (by omega) _ f i
 | false =>
  have k:dH G (bkAt G a)=true:=by
   unfold dK at d;rw[i] at d;unfold dH;cases c:(seenL G)[(bkAt G a).at_.toNat]?.getD false with
   | true=>rfl
   | false=>rw[c] at d;exact absurd d (by decide)
  obtain⟨b',-,e,c,-⟩:=tN h ((dV j).1 k);rw[e] at c;exact c
theorem eM(h:aK G=0):aO G=(lD (seenL G) (aa G)).map (tp G (seenL G)):=by unfold aO;rw[if_pos h]
theorem ep(h:aK G=0){e:En}(i:e∈aO G):∃a:Nat,bkAt G a∈aa G/\128<=a/\a%2=0/\a<G.length/\aD (wd G a)=true/\(aq (wd G a)).kind=1/\e=⟨(a:Int),gz (wd G a) (dH G (bkAt G a))⟩/\dK (seenL G) (bkAt G a)=false:=by
 obtain⟨n,-,-⟩:=aL h;rw[eM h,kz9] at i;obtain⟨b,f,rfl⟩:=i;have g:=qk f;have j:dK (seenL G) b=false:=by
  unfold lD at f;have:=(kzy.1 f).2
  simpa using this
 have c:=CS h g j;obtain⟨a,rfl,k,l,m,d⟩:=(cH n).1 b g;refine⟨a,g,k,l,m,?_,c,rfl,j⟩;unfold stands at d;simp only[kqs] at d;exact d.1
theorem eG(h:aK G=0):(aO G).Pairwise (λa b=>a.a<b.a):=by obtain⟨a,-,-⟩:=aL h;rw[eM h,kvb];exact List.Pairwise.filter _ (cH a).2
theorem qH(h:aK G=0):∀e∈aO G,e.v<18446744073709551616:=by intro e d;obtain⟨a,-,-,-,-,b,c,rfl,-⟩:=ep h d;exact (jd b c _).2.2.2
theorem Ah(h:aK G=0):Rm G (au G (aO G)):=by
 refine⟨aG _ _,λi=>?_⟩;by_cases f:∃e∈aO G,e.a=(i:Int)
 .obtain ⟨e,b,d⟩:=f;obtain⟨a,-,g,j,a3,k,l,rfl,-⟩:=ep h b;have c:a=i:=by dsimp only at d;omega
  subst c;refine .inr ⟨g,j,k,l,dH G (bkAt G a),?_⟩;have:=eJ (aO G) G (eG h) _ b (by dsimp only;omega) (by dsimp only;omega);dsimp only at this;rw[kqf] at this;exact this
 exact .inl (bj _ _ _ (λe b a=>f ⟨e,b,a⟩))
theorem kR(h:aK G=0)(k:b∈aa G):(mkB (au G (aO G)) b).mark=dH G b:=by
 obtain⟨o,-,-⟩:=aL h;obtain⟨a,rfl,a1,a2,a3,a4⟩:=(cH o).1 b k;show sw _ (bkAt G a).at_.toNat=_;rw[af,kqf];cases g:dK (seenL G) (bkAt G a) with
 | false =>
  have f:tp G (seenL G) (bkAt G a)∈aO G:=by rw[eM h,kz9];refine⟨_,?_,rfl⟩;unfold lD;rw[kzy];exact⟨k,by rw[g];rfl⟩
  obtain⟨d,-,l,m,n,i,j,e,-⟩:=ep h f;have c:=congrArg En.a e;have:d=a:=by have:((bkAt G a).at_:Int)=(d:Int):=c;rw[af] at this;omega
  subst this;have:=eJ (aO G) G (eG h) _ f (by rw[e];dsimp only;omega) (by rw[e];dsimp only;omega);rw[e] at this;dsimp only at this;rw[kqf] at this;unfold sw;rw[this,(jd i j _).2.1]
 | true =>
  have q:wd (au G (aO G)) a=wd G a:=bj _ _ _ (λe f p=>by
   obtain⟨d,hm,l,m,n,i,j,rfl,c⟩:=ep h f;have:d=a:=by dsimp only at p;omega
   subst this;rw[g] at c;cases c)
  unfold sw;rw[q];unfold dK at g;exact kqw.1 g
theorem EP{l:List Bk}(h:l.Pairwise (λa b=>a.at_<b.at_)):(fC l).Pairwise (· < ·):=by unfold fC;rw[kvb];exact List.Pairwise.filter _ h
theorem zU{l:List Bk}(h:l.Pairwise (λa b=>a.at_<b.at_)):(l.map (mkB xs)).Pairwise (λa b=>a.at_<b.at_):=by rw[kvb];exact h
theorem oz(h:aK G=0)(x:Int):x∈fB G↔∃a:Nat,x=(a:Int)/\a<G.length/\Rch G a:=by
 rw[fk h];unfold uB;rw[kz9];constructor
 .rintro ⟨a,b,rfl⟩;rw[kzy,kzn] at b;exact⟨a,rfl,b.1,(kS b.1).1 b.2⟩
 rintro ⟨a,rfl,b,c⟩;exact⟨a,kzy.2 ⟨kzn.2 b,(kS b).2 c⟩,rfl⟩
theorem AU(h:aK G=0):(fB G).Pairwise (· < ·):=by rw[fk h];unfold uB;rw[kvb];refine List.Pairwise.filter _ ?_;refine List.Pairwise.imp (R:=(· < ·)) (λ{a b} hab=>?_) List.pairwise_lt_range;omega
theorem Eb(h:aK G=0):fC ((aa G).map (mkB (au G (aO G))))=fB G:=by
 obtain⟨j,-,h3⟩:=aL h;have d:=cH j;refine IW (EP (zU d.2)) (AU h) λx=>?_;rw[oz h];unfold fC;rw[kz9];constructor
 .rintro ⟨c,g,rfl⟩;rw[kzy,kz9] at g;obtain⟨⟨b,e,rfl⟩,i⟩:=g;rw[kR h e] at i;obtain⟨a,rfl,a1,a2,f,a4⟩:=d.1 b e;exact⟨a,af G a,f,(dV f).1 i⟩
 rintro ⟨a,rfl,f,c⟩;obtain⟨b,e,rfl,-,-⟩:=tN h c;refine⟨mkB (au G (aO G)) (bkAt G a),?_,af G a⟩;rw[kzy];refine⟨kkx e,?_⟩;rw[kR h e];exact (dV f).2 c
theorem rf(h:aK G=0):(∀(i:Nat) (x:En),(aO G)[i]? = some x->128<=x.a/\x.a<(G.length:Int))/\∀(i:Nat) (x y:En),(aO G)[i]? = some x->(aO G)[i+1]? = some y->x.a<y.a:=by
 refine⟨λi x b=>?_,λi x y b f=>?_⟩
 .obtain ⟨a,-,a1,-,a3,-,-,rfl,-⟩:=ep h (List.mem_of_getElem? b);dsimp only;omega
 have a:=eG h;rw[kzg] at a;obtain⟨d,c⟩:=kzd.1 b;obtain⟨e,b⟩:=kzd.1 f;rw[<-c,<-b];exact a i (i+1) d e (by omega)
theorem ic(G:List Nat)(a u:Nat):(jj G a u).length=szAt G a:=by simp[jj]
theorem FO(l:List Nat):∀(G:List Nat) (t:Nat),t+l.length<=G.length->au G ((List.range l.length).map λj=>(⟨((t+j:Nat):Int),l[j]?.getD 0⟩:En))=fp G t l:=by
 induction l with
 | nil=>intro G t _;rfl
 | cons v l a =>intro G t h;simp only[kq4] at h;rw[kq4,List.range_succ_eq_map,kj4,List.map_map];simp only[au,fp,kxb];rw[if_pos (by omega),kqf,kkk,kq9,<-a _ (t+1) (by rw[kq5];omega)];congr 1;apply kxi;intro j _;simp only[Function.comp];rw[show t+Nat.succ j=t+1+j by omega];simp
theorem B7(h:u+szAt G a<=G.length):au G (jj G a u)=fp G u (el G a):=by rw[<-FO _ _ _ (by rw[gY];exact h),gY];congr 1;unfold jj;apply kxi;intro j b;rw[kt _ _ _ (kzn.1 b)];rfl
theorem tA(c:∀x∈G,x<2^64)(h:jk { aq (wd G a) with mark:=false }=true):∀e∈jj G a u,e.v<18446744073709551616:=by
 intro e b;simp only[jj,kz9] at b;obtain⟨j,-,rfl⟩:=b;dsimp only;split
 .exact qM h
 split
 .omega
 exact fH c _
theorem hU{k:Nat}(h:k<(jj G a u).length):((jj G a u)[k]).a=((u+k:Nat):Int):=by simp[jj]
theorem y9:∀ {l:List Bk} {s:Int},(∀b∈l,0<=b.size)->s<=aN l s:=by
 intro l
 induction l with
 | nil=>intro s _;exact kvo _
 | cons b l d =>
  intro s h;have h1:=h b (by simp);simp only[aN];split
  .have:=d (s:=s+b.size) (λc a=>h c (by simp[a]));omega
  exact d (λc a=>h c (by simp[a]))
theorem tD:∀ {l:List Bk} {s:Int},0<=s->(∀b∈l,0<=b.size)->∀e∈aZ l s,(e.v:Int)<=aN l s:=by
 intro l
 induction l with
 | nil=>intro s _ _ e h;simp[aZ] at h
 | cons b l g =>
  intro s hs h e a;have h1:=h b (by simp);have d:∀c∈l,0<=c.size:=λc f=>h c (by simp[f]);have hns:s<=fD b s:=by unfold fD;split<;>omega
  have hge:=y9 (l:=l) (s:=fD b s) d;have c:aN (b::l) s=aN l (fD b s):=by simp only[aN,fD];split<;>rfl
  rw[c];simp only[aZ,kz1] at a;rcases a with a|a
  .split at a
   .simp only[kq0,kzm,or_false] at a;subst a;show ((bK b s:Nat):Int)<=_;unfold bK;split<;>omega
   simp at a
  exact g (by omega) d e a
theorem qK(h:ao x=0):(aI x).length<=1024/\∀e∈aI x,e.v<18446744073709551616:=by
 have j:aI x=aZ (aa x) 128:=by unfold aI;rw[if_pos h]
 rw[j];refine⟨kzu (kW _ _) (dI x),λe f=>?_⟩;obtain⟨a,c,d,hs3⟩:=dx (gw h).2.2.1;have h1:=tD (l:=aa x) (s:=128) (by omega) (λb b=>by
  obtain⟨i,g,rfl⟩:=kqy b;have:=vA (gw h).2.2.1 g;omega) e f
 have b:=iw a (kqa _) c d;rw[kzb] at b;omega
structure Small (n:Nat) (E:List En):Prop where
 pos:1<=E.length
 le:E.length<=32
 inc:E.Pairwise (λa b=>a.a<b.a)
 ins:∀e∈E,(16<=e.a/\e.a<19\/112<=e.a)/\e.a<(n:Int)
 val:∀e∈E,e.v<18446744073709551616
theorem CD(h:l.Pairwise (λa b=>a.a<b.a))(k:Nat):(l.take k).Pairwise (λa b=>a.a<b.a):=h.sublist (kjy k l)
theorem Ad(hn:256<=n)(hp:p<4)(c:l.Pairwise (λa b=>a.a<b.a))(b:∀e∈l,128<=e.a/\e.a<(n:Int))(d:∀e∈l,e.v<18446744073709551616):Small n (iA l p):=by
 by_cases h:32<=l.length
 .rw[cD h];refine⟨by rw[kq6];omega,by rw[kq6];omega,CD c 31,λe a=>?_,λe a=>d e (kx3 a)⟩;have:=b e (kx3 a);omega
 rw[ii h];refine⟨by simp,by rw[kq4];omega,List.Pairwise.cons (λe a=>?_) c,λe a=>?_,λe a=>?_⟩
 .have:=b e a;dsimp only;omega
 .rcases kq0.1 a with rfl|a
  .dsimp only;omega
  have:=b e a;omega
 rcases kq0.1 a with rfl|a
 .dsimp only;omega
 exact d e a
theorem EZ{a:Int}(h:cM G a=0):∀e∈cB G a,a<=e.a/\e.a<(G.length:Int)/\e.v<2048:=by
 obtain⟨f,-,-,-,-,-,k,l,m,d⟩:=ij h;intro e j;obtain⟨r,o,r2,p,r4⟩:=m e j;have c:=eJ (cB G a) G d e j (by omega) (by omega);rw[o,kqf] at c;by_cases b:∃i,i<(cm G a).length/\f i=r
 .obtain ⟨i,g,e2⟩:=b;have:=(k i g).2.1;omega
 have:=l r (λi g n=>b ⟨i,g,n⟩);rw[c] at this;exact absurd this.symm p
theorem cP(h:aB G=0):cK G=0/\am (G.length:Int)=true/\jq G=true/\zh (wd G 16) (wd G 17) (wd G 18)=true:=by have a:=(dN (jH h)).1;exact⟨a,cR a⟩
theorem Ce(a:am (xs.length:Int)=true)(b:jq xs=true)(c:zh (wd xs 16) (wd xs 17) (wd xs 18)=true):cK xs=0:=(mP a (by rw[b,c];rfl)).1
theorem iF(h:∀e∈E,19<=e.a)(hi:i<19):wd (au G E) i=wd G i:=bj _ _ _ λe b=>by have:=h e b;omega
theorem ly(h:Small n E)(h1:19<=i)(h2:i<112):wd (au G E) i=wd G i:=bj _ _ _ λe a=>by have:=(h.ins e a).1;omega
theorem lx(a:Small G.length E)(j:jq G=true)(b:wd (au G E) 16<=G.length)(c:wd (au G E) 17<=G.length)(d:wd (au G E) 18<=G.length):jq (au G E)=true:=by obtain⟨-,e,f,g,h,i⟩:=(bo G).1 j;rw[bo,aG];exact⟨⟨b,c,d⟩,by rw[ly a (by omega) (by omega)];exact e,by rw[ly a (by omega) (by omega)];exact f,by rw[ly a (by omega) (by omega)];exact g,by rw[ly a (by omega) (by omega)];exact h,by rw[ly a (by omega) (by omega)];exact i⟩
def onW (G xs:List Nat):Prop:=wd G 16<=wd xs 16/\(wd xs 16=wd G 16->wd G 17<=wd xs 17/\wd G 18<=wd xs 18)
theorem kx(b:j<G.length)(c:∀e∈l,e.a≠(j:Int)):wd (au G (⟨(j:Int),v⟩::l)) j=v:=by rw[gh j v l b,bj _ _ _ c];unfold wd;rw[kz0 b];rfl
theorem qO(a:j<G.length)(_hne:i≠j):wd (au G (⟨(j:Int),v⟩::l)) i=wd (au (G.set j v) l) i:=by rw[gh j v l a]
theorem dU(h:i≠j):wd (G.set j v) i=wd G i:=by unfold wd;rw[kxs (by omega)]
theorem fU(g:aB G=0)(k:wd G 16=p)(i:p=1\/p=2)(o:l.Pairwise (λa b=>a.a<b.a))(f:∀e∈l,128<=e.a/\e.a<(G.length:Int))(q:∀e∈l,e.v<18446744073709551616):
 Small G.length (iA l (p+1))/\cK (au G (iA l (p+1)))=0/\onW G (au G (iA l (p+1)))/\wd (au G (iA l (p+1))) 16=(if 32<=l.length then p else p+1)/\wd (au G (iA l (p+1))) 17=0/\wd (au G (iA l (p+1))) 18=0:=by
 obtain⟨-,m,r,j⟩:=cP g;have hb:=(ae _).1 m;have c:=Ad (n:=G.length) (p:=p+1) (by omega) (by omega) o f q;have d:wd G 17=0/\wd G 18=0:=by rcases (cy _ _ _).1 j with h|h|h<;>omega
 have s:wd (au G (iA l (p+1))) 16=(if 32<=l.length then p else p+1)/\wd (au G (iA l (p+1))) 17=0/\wd (au G (iA l (p+1))) 18=0:=by
  by_cases h:32<=l.length
  .rw[cD h,if_pos h];have a:∀e∈l.take 31,19<=e.a:=λe b=>by have:=f e (kx3 b);omega
   rw[iF a (by omega),iF a (by omega),iF a (by omega)];exact⟨k,d⟩
  rw[ii h,if_neg h,show (16:Int)=((16:Nat):Int) from rfl];have a:∀e∈l,19<=e.a:=λe b=>by have:=f e b;omega
  rw[kx (by omega) (λe b=>by have:=a e b;omega),qO (by omega) (by omega),qO (by omega) (by omega),iF a (by omega),iF a (by omega),dU (by omega),dU (by omega)];exact⟨rfl,d⟩
 obtain⟨a,b,e⟩:=s;have hle:(if 32<=l.length then p else p+1)<=3/\p<=(if 32<=l.length then p else p+1):=by split<;>omega
 refine⟨c,Ce (by rw[aG];exact m) (lx c r (by rw[a];omega) (by rw[b];omega) (by rw[e];omega)) ?_,⟨by rw[a,k];omega,λ_=>by rw[b,e,d.1,d.2];exact⟨kqa _,kqa _⟩⟩,a,b,e⟩;rw[a,b,e,cy];rcases i with rfl|rfl
 .right;right;split<;>omega
 by_cases h:32<=l.length
 .rw[if_pos h];right;right;omega
 rw[if_neg h];right;left;exact⟨rfl,rfl,.inl rfl⟩
theorem jw{f:Nat}(i:aB G=0)(o:wd G 16=3)(n:lG f=true)(hfn:f<=G.length)(j:wd G 17<=f)(h0:l.length<=31)(q:l.Pairwise (λa b=>a.a<b.a))(m:∀e∈l,112<=e.a/\e.a<(G.length:Int))(r:∀e∈l,e.v<18446744073709551616):
 Small G.length (⟨17,f⟩::l)/\cK (au G (⟨17,f⟩::l))=0/\onW G (au G (⟨17,f⟩::l))/\wd (au G (⟨17,f⟩::l)) 16=3/\wd (au G (⟨17,f⟩::l)) 17=f/\wd (au G (⟨17,f⟩::l)) 18=0:=by
 obtain⟨-,p,s,k⟩:=cP i;have hb:=(ae _).1 p;have hi:=(a9 f).1 n;have a:∀e∈l,19<=e.a:=λe b=>by have:=m e b;omega
 have c:wd G 18=0:=by rcases (cy _ _ _).1 k with h|h|h<;>omega
 have d:Small G.length (⟨17,f⟩::l):=by
  refine⟨by simp,by rw[kq4];omega,List.Pairwise.cons (λe b=>?_) q,λe b=>?_,λe b=>?_⟩
  .have:=a e b;dsimp only;omega
  .rcases kq0.1 b with rfl|b
   .dsimp only;omega
   have:=m e b;omega
  rcases kq0.1 b with rfl|b
  .dsimp only;omega
  exact r e b
 have t:wd (au G (⟨17,f⟩::l)) 16=3/\wd (au G (⟨17,f⟩::l)) 17=f/\wd (au G (⟨17,f⟩::l)) 18=0:=by rw[show (17:Int)=((17:Nat):Int) from rfl];rw[qO (by omega) (by omega),kx (by omega) (λe b=>by have:=a e b;omega),qO (by omega) (by omega),iF a (by omega),iF a (by omega),dU (by omega),dU (by omega)];exact⟨o,rfl,c⟩
 obtain⟨e,g,h⟩:=t;refine⟨d,Ce (by rw[aG];exact p) (lx d s (by rw[e];omega) (by rw[g];omega) (by rw[h];omega)) ?_,⟨by rw[e,o];exact kqa _,λ_=>by rw[g,h,c];exact⟨j,kqa _⟩⟩,e,g,h⟩;rw[e,g,h,cy];right;left;exact⟨rfl,rfl,.inr n⟩
theorem ie(c:aB G=0)(f:wd G 16=3):Small G.length cc/\cK (au G cc)=0/\onW G (au G cc)/\wd (au G cc) 16=4/\wd (au G cc) 17=128/\wd (au G cc) 18=128:=by
 obtain⟨-,g,i,hph⟩:=cP c;have hb:=(ae _).1 g;have b:Small G.length cc:=by
  refine⟨by decide,by decide,by unfold cc;simp,λe a=>?_,λe a=>?_⟩
  .unfold cc at a;simp only[kq0,kzm,or_false] at a;rcases a with rfl|rfl|rfl<;>(dsimp only;omega)
  unfold cc at a;simp only[kq0,kzm,or_false] at a;rcases a with rfl|rfl|rfl<;>(dsimp only;omega)
 have j:wd (au G cc) 16=4/\wd (au G cc) 17=128/\wd (au G cc) 18=128:=by
  unfold cc;rw[show (16:Int)=((16:Nat):Int) from rfl,show (17:Int)=((17:Nat):Int) from rfl,show (18:Int)=((18:Nat):Int) from rfl];rw[gh 16 _ _ (by omega),gh 17 _ _ (by rw[kq5];omega),gh 18 _ _ (by rw[kq5,kq5];omega)];simp only[au];refine⟨?_,?_,?_⟩
  .rw[dU (by omega),dU (by omega)];unfold wd;rw[kz0 (by omega)];rfl
  .rw[dU (by omega)];unfold wd;rw[kz0 (by rw[kq5];omega)];rfl
  unfold wd;rw[kz0 (by rw[kq5,kq5];omega)];rfl
 obtain⟨a,d,e⟩:=j;refine⟨b,Ce (by rw[aG];exact g) (lx b i (by rw[a];omega) (by rw[d];omega) (by rw[e];omega)) (by rw[a,d,e];decide),⟨by rw[a,f];omega,λh=>by rw[a,f] at h;exact absurd h (by decide)⟩,a,d,e⟩
theorem nv{f t:Nat}(h:aB G=0)(o:wd G 16=4)(n:lG f=true)(q:lG t=true)(j:t<=f)(hfn:f<=G.length)(i:wd G 17<=f)(k:wd G 18<=t)(h0:l.length<=30)(r:l.Pairwise (λa b=>a.a<b.a))(m:∀e∈l,112<=e.a/\e.a<(G.length:Int))(s:∀e∈l,e.v<18446744073709551616):
 Small G.length (⟨17,f⟩::⟨18,t⟩::l)/\cK (au G (⟨17,f⟩::⟨18,t⟩::l))=0/\onW G (au G (⟨17,f⟩::⟨18,t⟩::l))/\wd (au G (⟨17,f⟩::⟨18,t⟩::l)) 16=4/\wd (au G (⟨17,f⟩::⟨18,t⟩::l)) 17=f/\wd (au G (⟨17,f⟩::⟨18,t⟩::l)) 18=t:=by
 obtain⟨-,p,u,hph⟩:=cP h;have hb:=(ae _).1 p;have hi:=(a9 f).1 n;have hj:=(a9 t).1 q;have b:∀e∈l,19<=e.a:=λe a=>by have:=m e a;omega
 have c:Small G.length (⟨17,f⟩::⟨18,t⟩::l):=by
  refine⟨by simp,by rw[kq4,kq4];omega,List.Pairwise.cons (λe a=>?_) (List.Pairwise.cons (λe a=>?_) r),λe a=>?_,λe a=>?_⟩
  .rcases kq0.1 a with rfl|a
   .dsimp only;omega
   have:=b e a;dsimp only;omega
  .have:=b e a;dsimp only;omega
  .rcases kq0.1 a with rfl|a
   .dsimp only;omega
   rcases kq0.1 a with rfl|a
   .dsimp only;omega
   have:=m e a;omega
  rcases kq0.1 a with rfl|a
  .dsimp only;omega
  rcases kq0.1 a with rfl|a
  .dsimp only;omega
  exact s e a
 have w:wd (au G (⟨17,f⟩::⟨18,t⟩::l)) 16=4/\wd (au G (⟨17,f⟩::⟨18,t⟩::l)) 17=f/\wd (au G (⟨17,f⟩::⟨18,t⟩::l)) 18=t:=by
  rw[show (17:Int)=((17:Nat):Int) from rfl,show (18:Int)=((18:Nat):Int) from rfl];rw[gh 17 _ _ (by omega),gh 18 _ _ (by rw[kq5];omega),iF b (by omega),iF b (by omega),iF b (by omega)];refine⟨?_,?_,?_⟩
  .rw[dU (by omega),dU (by omega)];exact o
  .rw[dU (by omega)];unfold wd;rw[kz0 (by omega)];rfl
  unfold wd;rw[kz0 (by rw[kq5];omega)];rfl
 obtain⟨d,e,g⟩:=w;refine⟨c,Ce (by rw[aG];exact p) (lx c u (by rw[d];omega) (by rw[e];omega) (by rw[g];omega)) ?_,⟨by rw[d,o];exact kqa _,λ_=>by rw[e,g];exact⟨i,k⟩⟩,d,e,g⟩;rw[d,e,g,cy];left;exact⟨rfl,n,q,j⟩
theorem nQ{α:Type}{p q:α->Bool}:∀ {l:List α},(∀b∈l,q b=true->p b=true)->(l.filter q).length<=(l.filter p).length/\((∃b∈l,p b=true/\q b=false)->(l.filter q).length<(l.filter p).length):=by
 intro l
 induction l with
 | nil=>intro _;exact⟨kqa _,λ⟨b,d,_⟩=>by simp at d⟩
 | cons b l e =>
  intro h;obtain⟨i1,j⟩:=e (λc a=>h c (by simp[a]));have d:=h b (by simp);rw[kxf,kxf];refine⟨?_,λ⟨c,a,f,g⟩=>?_⟩
  .cases e:q b with
   | true=>rw[d e];simp;omega
   | false=>cases i:p b<;>simp<;>omega
  rcases kq0.1 a with rfl|a
  .rw[f,g];simp;omega
  have:=j ⟨c,a,f,g⟩;cases e:q b with
  | true=>rw[d e];simp;omega
  | false=>cases i:p b<;>simp<;>omega
theorem iW(h:aK G=0)(f:E.Sublist (aO G)):Rm G (au G E):=by
 have n:E.Pairwise (λa b=>a.a<b.a):=(eG h).sublist f;refine⟨aG _ _,λi=>?_⟩;by_cases g:∃e∈E,e.a=(i:Int)
 .obtain ⟨e,b,d⟩:=g;obtain⟨a,-,j,k,a3,l,m,rfl,-⟩:=ep h (f.subset b);have c:a=i:=by dsimp only at d;omega
  subst c;refine .inr ⟨j,k,l,m,dH G (bkAt G a),?_⟩;have:=eJ E G n _ b (by dsimp only;omega) (by dsimp only;omega);dsimp only at this;rw[kqf] at this;exact this
 exact .inl (bj _ _ _ (λe b c=>g ⟨e,b,c⟩))
theorem vy(h:aK G=0)(h32:32<=(aO G).length):aK (au G ((aO G).take 31))=0/\(aO (au G ((aO G).take 31))).length<(aO G).length:=by
 have c:((aO G).take 31).Sublist (aO G):=kjy _ _;have o:((aO G).take 31).Pairwise (λa b=>a.a<b.a):=(eG h).sublist c;obtain⟨w,g2,D,g4,E⟩:=(iW h c).same h;refine⟨w,?_⟩;rw[eM w,D,E,kzw,eM h,kzw];rw[<-eM h];obtain⟨x,u⟩:=xq (au G ((aO G).take 31));rw[u];unfold lD;rw[List.filter_map,kzw];have f:=cH (aL h).1;have s:∀b∈aa G,(∀e∈(aO G).take 31,e.a≠b.at_)->(mkB x b).mark=b.mark:=by intro b q d;obtain⟨a,rfl,a1,a2,a3,a4⟩:=f.1 b q;show sw x (bkAt G a).at_.toNat=_;rw[af,kqf];unfold sw;rw[<-u,bj _ _ _ (λe k=>by have:=d e k;rwa [af] at this)];rfl
 refine (nQ (λb q d=>?_)).2 ?_
 .dsimp only[Function.comp_apply] at d |-;cases r:dK (seenL G) b with
  | false=>rfl
  | true =>
   exfalso;have p:=s b q (λe k n=>by
    obtain⟨a,p,A,B,C,l,m,rfl,e⟩:=ep h (c.subset k);dsimp only at n;have:bkAt G a=b:=by
     have t:=f.2;rw[kzg] at t;obtain⟨i,y,g⟩:=kqy p;obtain⟨j,z,v⟩:=kqy q;have h3:(aa G)[i].at_=(aa G)[j].at_:=by rw[g,v,af];exact n
     rcases kkh i j with n|n|n
     .have:=t i j y z n;omega
     .subst n;rw[<-g,<-v]
     have:=t j i z y n;omega
    rw[this,r] at e;cases e)
   unfold dK at r d;rw[p] at d
   change (!(b.mark==((seenL G)[b.at_.toNat]?.getD false)))=true at d
   rw[r] at d;exact absurd d (by decide)
 have i:0<((aO G).take 31).length:=(by rw[kq6];omega);have k:=kqp i;obtain⟨a,p,A,B,C,l,m,g,e⟩:=ep h (c.subset k);refine⟨bkAt G a,p,by rw[e];rfl,?_⟩;dsimp only[Function.comp_apply];have d:=eJ _ G o _ k (by rw[g];dsimp only;omega) (by rw[g];dsimp only;omega);rw[g] at d;dsimp only at d;rw[kqf,u] at d;unfold dK;show (!((mkB x (bkAt G a)).mark==((seenL G)[(bkAt G a).at_.toNat]?.getD false)))=false;have j:(mkB x (bkAt G a)).mark=dH G (bkAt G a):=by show sw x (bkAt G a).at_.toNat=_;rw[af,kqf];unfold sw;rw[d,(jd l m _).2.1]
 rw[j];unfold dH;simp
structure Ev (G xs:List Nat):Prop where
 len:xs.length=G.length
 at_:∀i,(i%2=0/\96<=i\/96<=i/\i<128)->wd xs i=wd G i
def nxB (xs:List Nat) (b:Bk):Bk:={ b with next:=wd xs (b.at_.toNat+1) }
section
variable {G xs:List Nat}
theorem Ev.stands(h:Ev G xs)(b:i%2=0)(a:96<=i):stands xs i=stands G i:=by unfold Proofs.YtpcajamacpbjcaaGreat.stands;rw[h.at_ i (.inl ⟨b,a⟩),h.len]
theorem Ev.bkAt(h:Ev G xs)(c:i%2=0)(a:96<=i):bkAt xs i=nxB xs (bkAt G i):=by
 unfold nxB;have b:(Proofs.YtpcajamacpbjcaaGreat.bkAt G i).at_.toNat=i:=by rw[af,kqf]
 rw[b];unfold Proofs.YtpcajamacpbjcaaGreat.bkAt;rw[h.at_ i (.inl ⟨c,a⟩)]
theorem Ev.blocks(h:Ev G xs):∀i l,blocks G i=some l->i%2=0->96<=i->blocks xs i=some (l.map (nxB xs)):=by
 refine dX (λi l=>i%2=0->96<=i->Proofs.YtpcajamacpbjcaaGreat.blocks xs i=some (l.map (nxB xs))) (λi c _ _=>?_) (λi l c e hb d a b=>?_)
 .exact aH (by rw[h.len];exact c)
 have hsz:=aC e;have d:=d (by omega) (by omega);have f:szAt xs i=szAt G i:=by unfold szAt;rw[h.at_ i (.inl ⟨a,b⟩)]
 rw[aT (by rw[h.len];exact c) (by rw[h.stands a b];exact e),f,d,h.bkAt a b];rfl
theorem Ik(h:Ev G xs)(e:b.kind=1->tyA b+1<128):dQ xs (nxB xs b)=dQ G b:=by
 by_cases a:b.kind=1
 .have c:=e a;have d:96<=tyA b:=by unfold tyA;omega
  unfold dQ dm;show (b.kind != 1||(b8 (wd xs (tyA b)) (wd xs (tyA b+1))&&b.size==((bp (wd xs (tyA b)%256):Nat):Int)))=_;rw[h.at_ _ (.inr ⟨d,by omega⟩),h.at_ _ (.inr ⟨by omega,c⟩)]
 rw[eY a,eY (b:=nxB xs b) a]
theorem Ev.heap(h:Ev G xs)(e:ao G=0):ao xs=0/\aa xs=(aa G).map (nxB xs):=by obtain⟨f,l,c,d,g⟩:=ax e;have i:=h.blocks 128 l c (by omega) (by omega);rw[g];refine gI (by rw[h.len];exact f) i ?_;rw[List.all_map,kzt];rw[kzt] at d;intro b a;show dQ xs (nxB xs b)=true;rw[Ik h (jN c (by omega) b a)];exact d b a
end
theorem gJ:∀ {l:List Bk} {s:Int} {e:En},e∈aZ l s->∃b∈l,b.kind=1/\e.a=b.at_+1:=by
 intro l
 induction l with
 | nil=>intro s e h;simp[aZ] at h
 | cons x l f =>
  intro s e h;simp only[aZ,kz1] at h;rcases h with h|h
  .split at h
   .rename_i hx;rw[kq2] at h;subst h;exact⟨x,by simp,hx.1,rfl⟩
   simp at h
  obtain⟨b,c,d⟩:=f h;exact⟨b,by simp[c],d⟩
theorem Fu :∀ {l:List Bk} {s:Int},l.Pairwise (λa b=>a.at_<b.at_)->(∀b∈l,0<=b.at_)->(∀b∈l,b.kind=1->wd xs (b.at_.toNat+1)=b.next\/∃e∈aZ l s,e.a=b.at_+1/\wd xs (b.at_.toNat+1)=e.v) ->
 (aZ (l.map (nxB xs)) s).length<=(aZ l s).length/\((∃e∈aZ l s,wd xs e.a.toNat=e.v)->(aZ (l.map (nxB xs)) s).length<(aZ l s).length):=by
 intro l
 induction l with
 | nil=>intro s _ _ _;exact⟨kqa _,λ⟨e,a,_⟩=>by simp[aZ] at a⟩
 | cons b l x =>
  intro s o q r;rw[kj9] at o;have i:∀c∈l,c.kind=1->wd xs (c.at_.toNat+1)=c.next\/∃e∈aZ l (fD b s),e.a=c.at_+1/\wd xs (c.at_.toNat+1)=e.v:=by
   intro c f j;rcases r c (by simp[f]) j with d|⟨e,a,h,p⟩
   .exact .inl d
   simp only[aZ,kz1] at a;rcases a with a|a
   .split at a
    .rw[kq2] at a;subst a;dsimp only at h;have:=o.1 c f;omega
    simp at a
   exact .inr ⟨e,a,h,p⟩
  obtain⟨i1,w⟩:=x (s:=fD b s) o.2 (λc f=>q c (by simp[f])) i;have hb0:=q b (by simp);rw[kj4];simp only[aZ];have t:fD (nxB xs b) s=fD b s:=rfl;have u:bK (nxB xs b) s=bK b s:=rfl;rw[t,u,kqu,kqu];have n:(nxB xs b).next=wd xs (b.at_.toNat+1):=rfl;have m:(nxB xs b).kind=b.kind:=rfl;have k:(nxB xs b).at_=b.at_:=rfl;have g:b.kind=1->wd xs (b.at_.toNat+1)=b.next\/wd xs (b.at_.toNat+1)=bK b s:=by
   intro j;rcases r b (by simp) j with d|⟨e,a,h,p⟩
   .exact .inl d
   simp only[aZ,kz1] at a;rcases a with a|a
   .split at a
    .rw[kq2] at a;subst a;exact .inr p
    simp at a
   obtain⟨c,f,-,h4⟩:=gJ a;have:=o.1 c f;omega
  have hle:(if (nxB xs b).kind=1/\(nxB xs b).next≠bK b s then [(⟨(nxB xs b).at_+1,bK b s⟩:En)] else []).length<=(if b.kind=1/\b.next≠bK b s then [(⟨b.at_+1,bK b s⟩:En)] else []).length:=by
   rw[n,m,k];by_cases j:b.kind=1
   .rcases g j with d|d
    .rw[d];exact kqa _
    rw[if_neg (λh=>h.2 d)];exact kqv _
   rw[if_neg (λh=>j h.1)];exact kqv _
  refine⟨by omega,λ⟨e,a,d⟩=>?_⟩;rcases kz1.1 a with a|a
  .split at a
   .rename_i f;rw[kq2] at a;subst a;dsimp only at d;have j:(b.at_+1).toNat=b.at_.toNat+1:=(by omega);rw[j] at d;rw[n,m,k,if_neg (λh=>h.2 d),if_pos f];simp only[kxd,kq4];omega
   simp at a
  have:=w ⟨e,a,d⟩;omega
noncomputable def stM (G:List Nat):Nat:=if wd G 16=1 then (aO G).length+1 else if wd G 16=2 then (aI G).length+1 else G.length+1-wd G 17
theorem pF :∀k a,G.length-a<=k->a<=G.length->(jp G a).1=0->jp G a=(0,cc)\/∃m:Nat,128<=m/\a<=m/\m%2=0/\2<=szAt G m/\szAt G m%2=0/\m+szAt G m<=G.length/\cM G (m:Int)=0/\jp G a=(0,⟨17,m+szAt G m⟩::cB G (m:Int)):=by
 intro k
 induction k with
 | zero =>
  intro a s r h;by_cases b:bu G (a:Int)=0
  .obtain ⟨t,n,o,m,e,f,g,i,j,l,-⟩:=fA b;omega
  exact .inl (iX b)
 | succ k u =>
  intro a s r h;by_cases b:bu G (a:Int)=0
  .obtain ⟨t,n,o,m,e,f,g,i,j,l,-⟩:=fA b;by_cases d:cm G (m:Int)=[]
   .have c:=jA b e d;rw[c] at h |-;rcases u (m+szAt G m) (by omega) (by omega) h with p|⟨q,v,q2,w,x,y,z,A,B⟩
    .exact .inl p
    exact .inr ⟨q,v,by omega,w,x,y,z,A,B⟩
   by_cases c:cM G (m:Int)=0
   .exact .inr ⟨m,by omega,f,g,i,j,l,c,nD b e d c⟩
   rw[qP b e d c] at h;exact absurd h c
  exact .inl (iX b)
theorem sb(h:ao x=0):aI x=aZ (aa x) 128:=by unfold aI;rw[if_pos h]
theorem pD(h:ao G=0):(aI G).Pairwise (λa b=>a.a<b.a)/\(∀e∈aI G,128<=e.a/\e.a<(G.length:Int))/\(∀e∈aI G,e.v<18446744073709551616):=by
 have d:aI G=aZ (aa G) 128:=by unfold aI;rw[if_pos h]
 obtain⟨_,l,a,-,b⟩:=ax h;refine⟨?_,λe c=>?_,(qK h).2⟩
 .rw[d,b];exact CA _ _ a 128
 rw[d,b] at c;have:=qJ _ _ a 128 e c;omega
theorem IJ(h:ao G=0)(h32:32<=(aI G).length):ao (au G ((aI G).take 31))=0/\(aI (au G ((aI G).take 31))).length<(aI G).length:=by
 obtain⟨y,z,i3⟩:=pD h;have q:aI G=aZ (aa G) 128:=by unfold aI;rw[if_pos h]
 have d:=cH h;have c:((aI G).take 31).Sublist (aI G):=kjy _ _;have g:((aI G).take 31).Pairwise (λa b=>a.a<b.a):=y.sublist c;have k:∀e∈aI G,∃a:Nat,e.a=((a+1:Nat):Int)/\a%2=0/\128<=a:=by intro e f;rw[q] at f;obtain⟨b,j,-,i⟩:=gJ f;obtain⟨a,rfl,n,o,-⟩:=d.1 b j;exact⟨a,by rw[i,af];rfl,o,n⟩
 have p:Ev G (au G ((aI G).take 31)):=by refine⟨aG _ _,λi hi=>bj _ _ _ λe f u=>?_⟩;obtain⟨a,i,n,o⟩:=k e (c.subset f);omega
 obtain⟨t,x⟩:=p.heap h;refine⟨t,?_⟩;have r:aI (au G ((aI G).take 31))=aZ ((aa G).map (nxB (au G ((aI G).take 31)))) 128:=by rw[sb t,x]
 rw[r];have m:=Fu (xs:=au G ((aI G).take 31)) (l:=aa G) (s:=128) d.2 (λb j=>by obtain⟨a,rfl,-⟩:=d.1 b j;rw[af];omega) (λb j hk=>by
  obtain⟨a,rfl,n,o,a3,w⟩:=d.1 b j;have hsz:=aC w;rw[af,kqf];by_cases v:∃e∈(aI G).take 31,e.a=((a+1:Nat):Int)
  .obtain ⟨e,f,i⟩:=v;refine .inr ⟨e,by rw[<-q];exact c.subset f,by rw[i];omega,?_⟩;have:=eJ _ G g e f (by omega) (by omega);rw[i,kqf] at this;exact this
  exact .inl (by rw[bj _ _ _ (λe f u=>v ⟨e,f,u⟩)];rfl))
 rw[<-q] at m;refine m.2 ?_;have i:0<((aI G).take 31).length:=(by rw[kq6];omega);have f:=kqp i;have hin:=z _ (c.subset f);exact⟨_,c.subset f,eJ _ G g _ f (by omega) (by omega)⟩
theorem mz(S:∀x∈G,x<2^64)(h:(ah G).1=0):aB G=0/\Small G.length (ah G).2/\cK (au G (ah G).2)=0/\onW G (au G (ah G).2)/\(wd (au G (ah G).2) 16=wd G 16->stM (au G (ah G).2)<stM G)/\(1<=wd G 16/\wd G 16<=4)/\wd (au G (ah G).2) 16<=wd G 16+1/\(wd G 16=4->wd (au G (ah G).2) 16=4):=by
 have c:aB G=0:=by
  by_cases d:aB G=0
  .exact d
  unfold ah at h;rw[if_neg d] at h;exact absurd h d
 obtain⟨-,T,R,H⟩:=cP c;have hb:=(ae _).1 T;obtain⟨⟨l1,U,l3⟩,-⟩:=(bo G).1 R;by_cases p:wd G 16=1
 .have b:aK G=0:=by
   by_cases d:aK G=0
   .exact d
   unfold ah at h;rw[if_pos c,if_pos p,if_neg d] at h;exact absurd h d
  have e:ah G=(0,iA (aO G) 2):=by unfold ah;rw[if_pos c,if_pos p,if_pos b]
  rw[e];dsimp only;obtain⟨f,j⟩:=rf b;obtain⟨q,r,s,o,y,B⟩:=fU c p (.inl rfl) (eG b) (λx a=>by
   obtain⟨i,N⟩:=kj8.1 a;exact f i x N) (qH b)
  simp only[Nat.reduceAdd] at q r s o y B;refine⟨c,q,r,s,λg=>?_,by omega,by rw[o];split<;>omega,λg=>by omega⟩;have a:32<=(aO G).length:=by
   rw[o] at g;split at g
   .assumption
   omega
  have k:=(vy b a).2;rw[p] at g;unfold stM;rw[if_pos g,if_pos p,cD a];omega
 by_cases w:wd G 16=2
 .have b:ao G=0:=by
   by_cases d:ao G=0
   .exact d
   unfold ah at h;rw[if_pos c,if_neg p,if_pos w,if_neg d] at h;exact absurd h d
  have e:ah G=(0,iA (aI G) 3):=by unfold ah;rw[if_pos c,if_neg p,if_pos w,if_pos b]
  rw[e];dsimp only;obtain⟨f,j,l⟩:=pD b;obtain⟨q,r,s,o,y,B⟩:=fU c w (.inr rfl) f j l;simp only[Nat.reduceAdd] at q r s o y B;refine⟨c,q,r,s,λg=>?_,by omega,by rw[o];split<;>omega,λg=>by omega⟩;have a:32<=(aI G).length:=by
   rw[o] at g;split at g
   .assumption
   omega
  have k:=(IJ b a).2;rw[w] at g;unfold stM;rw[if_neg (by omega),if_pos g,if_neg p,if_pos w,cD a];omega
 by_cases E:wd G 16=3
 .have e:ah G=sgFix G:=by unfold ah;rw[if_pos c,if_neg p,if_neg w,if_pos E]
  rw[e] at h |-;have j:∀(f:Nat) (l:List En),sgFix G=(0,⟨17,f⟩::l)->lG f=true->f<=G.length->wd G 17<f->l.length<=31->l.Pairwise (λa b=>a.a<b.a)->(∀e∈l,112<=e.a/\e.a<(G.length:Int))->(∀e∈l,e.v<18446744073709551616) ->
   aB G=0/\Small G.length (sgFix G).2/\cK (au G (sgFix G).2)=0/\onW G (au G (sgFix G).2)/\(wd (au G (sgFix G).2) 16=wd G 16->stM (au G (sgFix G).2)<stM G)/\(1<=wd G 16/\wd G 16<=4)/\wd (au G (sgFix G).2) 16<=wd G 16+1/\(wd G 16=4->wd (au G (sgFix G).2) 16=4):=by
   intro f l b k m f3 n u x z;rw[b];dsimp only;obtain⟨q,r,s,o,y,B⟩:=jw c E k m (by omega) n u x z;refine⟨c,q,r,s,λg=>?_,by omega,by rw[o];omega,λg=>by omega⟩;unfold stM;rw[o,if_neg (by decide),if_neg (by decide),if_neg p,if_neg w,aG,y];omega
  by_cases z:wd G 17=0
  .have k:dh G=0:=by
    by_cases d:dh G=0
    .exact d
    unfold sgFix at h;rw[if_pos z,if_neg d] at h;exact absurd h d
   have b:sgFix G=(0,⟨17,128⟩::dg G):=by unfold sgFix;rw[if_pos z,if_pos k]
   obtain⟨-,-,-,-,-,-,-,m,n,q3,-⟩:=kj k;exact j 128 (dg G) b (by decide) (by omega) (by omega) (by omega) n (λe x=>by have:=(m e x).1;omega) (λe x=>(m e x).2)
  have b:sgFix G=jp G (wd G 17):=by unfold sgFix;rw[if_neg z]
  have n:(jp G (wd G 17)).1=0:=by rw[<-b];exact h
  rcases pF G.length (wd G 17) (by omega) U n with C|⟨m,V,W,X,Y,Z,O,J,P⟩
  .rw[b,C];dsimp only;obtain⟨q,r,s,o,y,B⟩:=ie c E;exact⟨c,q,r,s,λg=>by rw[o] at g;omega,by omega,by rw[o];omega,λg=>by omega⟩
  obtain⟨f,-,-,-,-,q5,-,-,-,u⟩:=ij J;have k:=EZ J;exact j (m+szAt G m) (cB G (m:Int)) (by rw[b,P]) ((a9 _).2 (by omega)) O (by omega) (by omega) u (λe x=>by have:=k e x;omega) (λe x=>by have:=k e x;omega)
 by_cases K:wd G 16=4
 .have e:ah G=sgSld G:=by unfold ah;rw[if_pos c,if_neg p,if_neg w,if_neg E,if_pos K]
  rw[e] at h |-;have A:bu G ((wd G 17:Nat):Int)=0:=by
   by_cases d:bu G ((wd G 17:Nat):Int)=0
   .exact d
   unfold sgSld at h;rw[if_neg d] at h;exact absurd h (by decide)
  obtain⟨-,a1,a2,m,L,V,W,X,Y,Z,O,J,P,-⟩:=fA A;have z:ei G (m:Int) ((wd G 18:Nat):Int)=0:=by
   by_cases d:ei G (m:Int) ((wd G 18:Nat):Int)=0
   .exact d
   unfold sgSld at h;rw[if_pos A,L,af,if_neg d] at h;exact absurd h d
  have b:sgSld G=(0,⟨17,m+szAt G m⟩::⟨18,wd G 18+szAt G m⟩::jj G m (wd G 18)):=by unfold sgSld;rw[if_pos A,L,af,if_pos z,aU,show ((m:Int)+((szAt G m:Nat):Int)).toNat=m+szAt G m by omega,show (((wd G 18:Nat):Int)+((szAt G m:Nat):Int)).toNat=wd G 18+szAt G m by omega];unfold i9;rw[if_pos z,kqf,kqf]
  obtain⟨a,u,n,j,M,k,n2,n10,hu,hua,han,hst,hlv,-,-,I⟩:=fO z;have j:a=m:=(by omega);have M:u=wd G 18:=(by omega);subst j M;subst k;have F:=(cy _ _ _).1 H;have D:lG (wd G 17)=true/\lG (wd G 18)=true/\wd G 18<=wd G 17:=by
   rcases F with C|C|C
   .exact C.2
   .omega
   omega
  have i1:=(a9 _).1 D.1;have i2:=(a9 _).1 D.2.1;rw[b];dsimp only;obtain⟨q,r,s,o,y,B⟩:=nv (f:=a+szAt G a) (t:=wd G 18+szAt G a) (l:=jj G a (wd G 18)) c K ((a9 _).2 (by omega)) ((a9 _).2 (by omega)) (by omega) (by omega) (by omega) (by omega) (by rw[ic];omega) (by
   rw[kzg];intro i j N hj hij;rw[hU,hU];omega) (λe x=>by
   obtain⟨k,Q,rfl⟩:=kqy x;rw[hU];rw[ic] at Q;omega) (tA S I)
  refine⟨c,q,r,s,λg=>?_,by omega,by rw[o];omega,λg=>o⟩;unfold stM;rw[o,if_neg (by decide),if_neg (by decide),if_neg p,if_neg w,aG,y];omega
 have e:ah G=(6,[]):=by unfold ah;rw[if_pos c,if_neg p,if_neg w,if_neg E,if_neg K]
 rw[e] at h;exact absurd h (by decide)
noncomputable def pk (p:Nat):Nat->List Nat->Int × List (List En) × List Nat
 | 0,x=>(0,[],x)
 | f+1,x=>if wd x 16=p then (if (ah x).1=6 then (0,[],x) else if (ah x).1=0 then
  (if (pk p f (au x (ah x).2)).1=0 then (0,(ah x).2::(pk p f (au x (ah x).2)).2.1,(pk p f (au x (ah x).2)).2.2) else ((pk p f (au x (ah x).2)).1,[],[]))
  else ((ah x).1,[],[])) else (0,[],x)
noncomputable def mzS (p:Nat) (x:List Nat):Nat:=if wd x 16=p then stM x+1 else 0
theorem dY(a:∀x∈G,x<2^64)(h:(ah G).1=0):∀x∈au G (ah G).2,x<18446744073709551616:=ue _ _ a (mz a h).2.1.val
theorem gj(b:∀v∈x,v<2^64)(a:wd x 16=p)(h:(ah x).1=0):mzS p (au x (ah x).2)<mzS p x:=by
 unfold mzS;rw[if_pos a];split
 .rename_i h1;have:=(mz b h).2.2.2.2.1 (by rw[h1,a]);omega
 omega
theorem zC :∀ {f g:Nat} {x:List Nat},(∀v∈x,v<2^64)->mzS p x<=f->mzS p x<=g->pk p f x=pk p g x:=by
 have i:∀n,∀f g x,(∀v∈x,v<2^64)->mzS p x<=n->mzS p x<=f->mzS p x<=g->pk p f x=pk p g x:=by
  intro n
  induction n with
  | zero =>
   intro f g x b c e h;have a:¬ wd x 16=p:=λa=>by unfold mzS at c;rw[if_pos a] at c;omega
   cases f with
   | zero =>
    cases g with
    | zero=>rfl
    | succ g=>simp only[pk];rw[if_neg a]
   | succ f =>
    cases g with
    | zero=>simp only[pk];rw[if_neg a]
    | succ g=>simp only[pk];rw[if_neg a,if_neg a]
  | succ n j =>
   intro f g x b c e h;by_cases a:wd x 16=p
   .have h1:0<mzS p x:=by unfold mzS;rw[if_pos a];omega
    obtain⟨f,rfl⟩:∃f',f=f'+1:=⟨f-1,by omega⟩;obtain⟨g,rfl⟩:∃g',g=g'+1:=⟨g-1,by omega⟩;simp only[pk];by_cases d:(ah x).1=0
    .have hd:=gj b a d;rw[j f g (au x (ah x).2) (dY b d) (by omega) (by omega) (by omega)]
    simp only[d,if_false]
   cases f with
   | zero =>
    cases g with
    | zero=>rfl
    | succ g=>simp only[pk];rw[if_neg a]
   | succ f =>
    cases g with
    | zero=>simp only[pk];rw[if_neg a]
    | succ g=>simp only[pk];rw[if_neg a,if_neg a]
 intro f g x b e h;exact i _ f g x b (kqa _) e h
noncomputable def dF (p:Nat) (x:List Nat):Int × List (List En) × List Nat:=pk p (mzS p x) x
theorem cU(h:wd x 16≠p):dF p x=(0,[],x):=by unfold dF mzS;rw[if_neg h];rfl
theorem ld(a:wd x 16=p)(h:(ah x).1=6):dF p x=(0,[],x):=by unfold dF mzS;rw[if_pos a];simp only[pk];rw[if_pos a,if_pos h]
theorem qe(a:wd x 16=p)(h:(ah x).1≠6)(b:(ah x).1≠0):dF p x=((ah x).1,[],[]):=by unfold dF mzS;rw[if_pos a];simp only[pk];rw[if_pos a,if_neg h,if_neg b]
theorem eE(b:∀v∈x,v<2^64)(a:wd x 16=p)(h:(ah x).1=0):dF p x=(if (dF p (au x (ah x).2)).1=0 then (0,(ah x).2::(dF p (au x (ah x).2)).2.1,(dF p (au x (ah x).2)).2.2) else ((dF p (au x (ah x).2)).1,[],[])):=by
 have hd:=gj b a h;have c:mzS p x=stM x+1:=by unfold mzS;rw[if_pos a]
 have e:pk p (stM x) (au x (ah x).2)=dF p (au x (ah x).2):=zC (dY b h) (by omega) (kqa _)
 conv=>lhs;unfold dF
 rw[c];simp only[pk];rw[if_pos a,if_neg (by rw[h];decide),if_pos h,e]
theorem a8(w:World){sz:Nat}(e:TypeId)(cs:Array Value)(b:H<=w.heap.size)(a:cs.size=n*sz)(c:n<=maxLen):(w.alloc (.cells cs e)).ownsRow H e sz (.slice (some ⟨w.heap.size,0,none⟩) n n) n cs.toList:=
 ⟨by rw[kkw];exact a,.inr ⟨w.heap.size,n,cs,rfl,b,heap_alloc_new w _,kqa _,c,a,by rw[kza (by rw[kkw,a];exact kqa _)]⟩⟩
theorem wj{c sz g:Nat}{xs:List Value}(h:w.ownsRow H e sz (.slice (some ⟨g,0,none⟩) n c) n xs)(o:m<=n):w.ownsRow H e sz (.slice (some ⟨g,0,none⟩) m c) m (xs.take (m*sz)):=by
 have d:m*sz<=n*sz:=kx2 _ o;refine⟨by rw[kq6,h.1];omega,.inr ?_⟩;rcases h.2 with⟨a,_⟩|⟨g',cap,b,a,f,i,h4,j,k,l⟩
 .cases a
 simp only[Value.slice.injEq,Option.some.injEq,Addr.mk.injEq,and_true,true_and] at a;obtain⟨rfl,rfl⟩:=a;refine⟨g,c,b,rfl,f,i,by omega,j,k,?_⟩;rw[<-l,kkl,kxo d]
theorem km(i v:Int)(w:World)(a:0<=i/\i<=1000)(b:0<=v/\v<=9223372036854775807):
 Calls prog 147 #[.int .i64 i,.int .i64 v] w λe c=>e=.returned (.agg #[.int .i64 (16+i),.int .u64 v])/\Below w.heap.size w c:=by have w1:IntKind.i64.wrap (16+i)=16+i:=kqo _ (by omega);have w2:IntKind.u64.wrap v=v:=kzi _ (by omega);clear a b;go_enter func147,ntmps147;go_wp2_with fail;exact kqq (v:=.agg #[.int .i64 (16+i),.int .u64 v]) (by simp[results,results147,go_sem]) rfl ⟨rfl,(kqe _ _).alloc (kqa _) _⟩
theorem rH(A:Option Addr)(E:List En)(c n p H:Nat)(w:World)(d:E.length=n)(q:n<=100000)(hp:p<=100)(a:w.ownsRow H 89 2 (.slice A n c) n (E.flatMap En.cells))(m:H<=w.heap.size):
 Calls prog 142 #[.slice A n c,.int .i64 (p:Int)] w λe b=>(∃A' j,e=.returned (.slice A' (iA E p).length j)/\b.ownsRow H 89 2 (.slice A' (iA E p).length j) (iA E p).length ((iA E p).flatMap En.cells))/\Below w.heap.size w b:=by
 subst d;by_cases h:32<=E.length
 .have l:=cD (p:=p) h;obtain⟨g,j,e⟩:=fa a (by omega);have f:=d6 a;cases e;have i:=y5 (wj a (show 31<=E.length by omega));have o:(E.take 31).length=31:=(by rw[kq6];omega);have d:=y5 (And.intro l o);have k:decide ((32:Int)<=(E.length:Int))=true:=(by rw[kqh];omega);have b:decide (32<=E.length)=true:=(by rw[kqh];omega);have c31:(31:Int)<=(c:Int):=(by omega);have l31:(31:Int)<=(E.length:Int):=(by omega);clear l o h a f;go_enter func142,ntmps142;go_wp2;go_ret;refine⟨⟨some ⟨g,0,none⟩,c,by rw[d.out.1,d.out.2];rfl,?_⟩,kqe _ _⟩;rw[d.out.1,d.out.2,ia En.cells 2 En.len];exact i.out
 obtain⟨d,t,l⟩:=yq1 (ii (p:=p) h) (Rd.of_own a) (λW=>km 0 (p:Int) W (by omega) (by omega));have k:decide ((32:Int)<=(E.length:Int))=false:=(by rw[kqb];omega);have b:decide (32<=E.length)=false:=(by rw[kqb];omega);have hEl:E.length<=31:=(by omega);have r:=y5 m;clear h a m q;obtain⟨u,g,a,b,f⟩:=kzh bE;obtain⟨s,m,o,q⟩:=yq2 g a b f;clear g a b f;go_enter func142,ntmps142;go_wp2_with fail;refine (l.out _).mono ?_;rintro e b ⟨rfl,a⟩;have f:=y5 a;have k:=yq9 t a;simp only[Int.add_zero];clear a;go_wp2_with (at_builtin;refine aW _ (by rfl) _ _ 26 rfl b.heap.size 89 u _ 2 16 underlying26 s.out m.out o.out q.out rfl (by decide) (.slice (some ⟨b.heap.size,0,none⟩) 1 1) 1 [.int .i64 16,.int .u64 (p:Int)] (by rfl) (a8 (n:=1) (sz:=2) b 89 #[.int .i64 16,.int .u64 (p:Int)] (kqa _) (by rfl) (by unfold maxLen;omega)) b.heap.size (A) (E.length) c (E.flatMap En.cells) (by rfl) (by rw[bU En.cells 2 En.len]) (Rd.alloc (k.out) (kqa _) _) (db En.one _) (by unfold maxLen;omega) (by omega) (by simp) ?_;intro v1 wa a i;have h:=bi ((kqe b.heap.size b).alloc (kqa _) _) (by simp) (a8 (n:=1) (sz:=2) b 89 #[.int .i64 16,.int .u64 (p:Int)] (kqa _) (by rfl) (by unfold maxLen;omega)) i;have g:=y5 a;have j:=y5 h;clear a h i);go_ret;have a:=ab g.out (show H<=b.heap.size from kzu r.out f.out.size);rw[kjj] at a;obtain⟨h,i,rfl⟩:=aw a;refine⟨⟨h,i,by rw[d.out];rfl,?_⟩,f.out.trans (j.out.mono f.out.size)⟩;rw[d.out,kq4];exact a
def fe (G:List Nat) (f:Nat):Int × List En:=if f=0 then (if dh G=0 then (0,⟨17,128⟩::dg G) else (dh G,[])) else jp G f
theorem Ei(G:List Nat):sgFix G=fe G (wd G 17):=rfl
theorem Hp(A:Option Addr)(G:List Nat)(c n f:Nat)(q t:Int)(w:World)(a:G.length=n)(hm:n<=2048)(hf:f<=n)(F:RdW w w.heap.size A G)(D:∀x∈G,x<2^64):
 Calls prog 144 #[.slice A n c,.agg #[.int .i64 q,.int .i64 (f:Int),.int .i64 t]] w λe b=>ey w.heap.size (fe G f).1 (fe G f).2 e b/\Below w.heap.size w b:=by
 subst a;obtain⟨HR,y⟩:=yq0 F (λW (h:RdW W W.heap.size A G)=>yN A G c G.length W rfl (by omega) h D);unfold ey at y;obtain⟨Kq,Kj⟩:=yq0 (λa (U:a<=4096) W (h:RdW W W.heap.size A G)=>Gq A G c G.length ((a:Nat):Int) W rfl (by omega) (by omega) h D) (λa W (h:RdW W W.heap.size A G)=>xy A G c G.length ((a:Nat):Int) W rfl (by omega) h D);unfold RsRes at Kj;have Kh:=y5 (λa W (h:RdW W W.heap.size A G)=>tB A G c G.length ((a:Nat):Int) W rfl (by omega) h D);unfold ey at Kh;have Kr:Hid (∀(v:Int) (W:World),0<=v/\v<=9223372036854775807->Calls prog 147 #[.int .i64 0,.int .i64 v] W λe b=>e=.returned (.agg #[.int .i64 16,.int .u64 v])/\Below W.heap.size W b):=y5 λv W d=>km 0 v W (by omega) d;have Kc:Hid (∀(v:Int) (W:World),0<=v/\v<=9223372036854775807->Calls prog 147 #[.int .i64 1,.int .i64 v] W λe b=>e=.returned (.agg #[.int .i64 17,.int .u64 v])/\Below W.heap.size W b):=y5 λv W d=>km 1 v W (by omega) d;have Ks:Hid (∀(v:Int) (W:World),0<=v/\v<=9223372036854775807->Calls prog 147 #[.int .i64 2,.int .i64 v] W λe b=>e=.returned (.agg #[.int .i64 18,.int .u64 v])/\Below W.heap.size W b):=y5 λv W d=>km 2 v W (by omega) d;have Ko:Hid (∀m:Nat,cM G (m:Int)=0->(cB G (m:Int)).length<=8):=y5 λm h=>by obtain⟨f,-,-,-,-,q5,-⟩:=ij h;exact q5
 clear F D;have b:=Bx.new w 107 #[.int .i64 q,.int .i64 (f:Int),.int .i64 t];obtain⟨o,K,XB⟩:=yq1 ((kqe w.heap.size w).alloc (kqa _) (.cells #[.int .i64 q,.int .i64 (f:Int),.int .i64 t] 107)) ((HR.out.alloc (kqa _) (.cells #[.int .i64 q,.int .i64 (f:Int),.int .i64 t] 107)).more (show w.heap.size<=(w.alloc (.cells #[.int .i64 q,.int .i64 (f:Int),.int .i64 t] 107)).heap.size by simp)) b;clear b;by_cases i:f=0
 .subst i;by_cases p:dh G=0
  .have Z:=y5 (show fe G 0=(0,⟨17,128⟩::dg G) by unfold fe;rw[if_pos rfl,if_pos p]);have H:(dg G).length<=16:=by obtain⟨-,-,-,-,-,-,-,-,-,J,-⟩:=kj p;exact J
   rw[p] at y;obtain⟨E,O⟩:=xq (dg G);rw[O] at y Z H;clear p O;obtain⟨i0,v,s,u,l⟩:=kzh bE;obtain⟨HI,Kd,Ke,Kf⟩:=yq2 v s u l;clear v s u l;simp only[kq1] at XB o K |-;go_enter func144,ntmps144;go_wp2_with fail;refine (y.out _ K.out).mono ?_;rintro e w1 ⟨⟨B,C,rfl,g⟩,d⟩;have j:=yq7 o d;have r:=y5 (Rd.of_own g);clear g d;go_wp2_with fail;refine (Kc.out 128 _ (by omega)).mono ?_;rintro e S ⟨rfl,b⟩;have k:=yq7 j b;have z:=yq9 r b;clear b
   go_wp2_with (at_builtin;refine aW _ (by rfl) _ _ 26 rfl S.heap.size 89 i0 _ 2 16 underlying26 HI.out Kd.out Ke.out Kf.out rfl (by decide) (.slice (some ⟨S.heap.size,0,none⟩) 1 1) 1 [.int .i64 17,.int .u64 128] (by rfl) (a8 (n:=1) (sz:=2) S 89 #[.int .i64 17,.int .u64 128] (kqa _) (by rfl) (by unfold maxLen;omega)) S.heap.size (B) (E.length) C (E.flatMap En.cells) (by rfl) (by rw[bU En.cells 2 En.len]) (Rd.alloc (z.out) (kqa _) _) (db En.one _) (by unfold maxLen;omega) (by omega) (by simp) ?_;intro v1 wa g P;have M:=bi ((kqe S.heap.size S).alloc (kqa _) _) (by simp) (a8 (n:=1) (sz:=2) S 89 #[.int .i64 17,.int .u64 128] (kqa _) (by rfl) (by unfold maxLen;omega)) P;have I:=y5 g;have Ka:=y5 M;clear g M P);have U:=ab I.out k.out.size;rw[kjj] at U;obtain⟨A9,c9,rfl⟩:=aw U;have H1:=y5 U;clear U;go_ret2;rw[Z.out];exact⟨⟨A9,c9,rfl,H1.out⟩,k.out.trans (Ka.out.mono k.out.size)⟩
  have Z:=y5 (show fe G 0=(dh G,[]) by unfold fe;rw[if_pos rfl,if_neg p]);have R:(dh G != 0)=true:=by rw[kqx];exact p
  obtain⟨r,F⟩:=xq (dh G);obtain⟨E,O⟩:=xq (dg G);rw[F] at y Z R;rw[O] at y;clear p F O;simp only[kq1] at XB o K |-;go_enter func144,ntmps144;go_wp2_with fail;refine (y.out _ K.out).mono ?_;rintro e w1 ⟨⟨B,C,rfl,-⟩,d⟩;have j:=yq7 o d;clear d;go_wp2;go_ret2;rw[Z.out];exact⟨bZ rfl rfl,j.out⟩
 have Z:Hid (fe G f=jp G f):=y5 (by unfold fe;rw[if_neg i]);have B:((f:Int)==0)=false:=(by rw[kqc];omega);have z:(f==0)=false:=by rw[kqc];exact i
 clear i;obtain⟨wP,Kv⟩:∃wP,w.alloc (.cells #[.int .i64 q,.int .i64 (f:Int),.int .i64 t] 107)=wP:=⟨_,rfl⟩;rw[Kv] at o K XB;obtain⟨p0,p1,i,-⟩:=XB.out.c3;obtain⟨i0,v,s,u,l⟩:=kzh bE;obtain⟨HI,Kd,Ke,Kf⟩:=yq2 v s u l;clear v s u l;go_enter func144,ntmps144;go_wp2_with fail;clear p0 p1 i B z;go_loopw [8] (λi wr=>∃a:Nat,a<=G.length/\i=.int .i64 a/\Hid (jp G a=jp G f)/\Below w.heap.size w wr) (λi _=>G.length+1-(intOf i).toNat)
 case atStart=>exact⟨f,hf,rfl,rfl,o.out⟩
 obtain⟨a,ha,rfl,X,hB⟩:=hrel;have hz:=hB.size;obtain⟨Y,H⟩:=yq0 (Kq.out a (by omega) wr (HR.out.up hB hz)) hB;by_cases p:bu G (a:Int)=0
 .obtain ⟨hs,a1,a2,m,u,V,m2,v,m4,B,m6,m7,m8,-⟩:=fA p;have s:(iI G (a:Int)).val=.agg #[.int .i64 (m:Int),.int .i64 ((szAt G m:Nat):Int),.int .i64 1,.int .i64 (bkAt G m).typ,.bool true,.int .u64 ((bkAt G m).next:Int)]:=by rw[u];unfold Bk.val;rw[m7,m8];rfl
  rw[s,p] at Y;obtain⟨Kk,Kl,Ki⟩:=yq1 (λh=>jA p u h) (λh h2=>qP p u h h2) (λh h2=>nD p u h h2);obtain⟨z,l⟩:=xq (szAt G m);obtain⟨T,Q⟩:=xq ((bkAt G m).typ);obtain⟨N,C⟩:=xq ((bkAt G m).next);rw[l,Q,C] at Y;rw[l] at Kk Ki v B;obtain⟨L,J,Kp⟩:=yq1 (λW h=>Kj.out m W h) (λW h=>Kh.out m W h) (Ko.out m);have wmz:IntKind.i64.wrap ((m:Int)+(z:Int))=(m:Int)+(z:Int):=kqo _ (by omega);have i:(((m+z:Nat)):Int)=(m:Int)+(z:Int):=(by omega);have Kg:=y5 i;have Ku:m+z<=G.length:=B;have hz02:2<=z:=v;have ham:a<=m:=V;clear hs a1 a2 V m2 v m4 B m6 m7 m8 s p u l Q C i hB;by_cases s:cm G (m:Int)=[]
  .have W:=y5 ((Kk.out s).symm.trans X.out);rw[s] at L;clear s;go_wp2_with fail;refine Y.out.mono ?_;rintro e w1 ⟨rfl,d⟩;have j:=y5 (H.out.trans (d.mono hz));have l:=Bx.new w1 55 #[.int .i64 (m:Int),.int .i64 (z:Int),.int .i64 1,.int .i64 T,.bool true,.int .u64 (N:Int)];have i:=y5 (j.out.alloc j.out.size (.cells #[.int .i64 (m:Int),.int .i64 (z:Int),.int .i64 1,.int .i64 T,.bool true,.int .u64 (N:Int)] 55));obtain⟨B,XN⟩:=yq0 (yq8 HR i) l;clear d l;go_wp2_with fail;refine (L.out _ B.out).mono ?_;rintro e S ⟨⟨A2,c2,rfl,-,-⟩,b⟩;have k:=yq7 i b;clear b;simp only[kxd];go_wp2;go_roundw;exact⟨m+z,Ku,by rw[Kg.out],W.out,k.out⟩;simp[intOf];omega
  have Eq:¬ (cm G (m:Int)).length=0:=λh=>s (kxe h);obtain⟨lr,Q⟩:∃lr,(cm G (m:Int)).length=lr:=⟨_,rfl⟩;rw[Q] at L Eq;have l0:((lr:Int)==0)=false:=(by rw[kqc];omega);have l0n:(lr==0)=false:=by rw[kqc];exact Eq
  by_cases D:cM G (m:Int)=0
  .have W:=y5 (show fe G f=(0,⟨17,m+z⟩::cB G (m:Int)) by rw[Z.out,<-X.out];exact Ki.out s D);have Kt:=Kp.out D;rw[D] at J;obtain⟨E,O⟩:∃E,cB G (m:Int)=E:=⟨_,rfl⟩;rw[O] at J W Kt;clear s Eq Q D O;go_wp2_with fail;refine Y.out.mono ?_;rintro e w1 ⟨rfl,d⟩;have j:=y5 (H.out.trans (d.mono hz));have l:=Bx.new w1 55 #[.int .i64 (m:Int),.int .i64 (z:Int),.int .i64 1,.int .i64 T,.bool true,.int .u64 (N:Int)];have i:=y5 (j.out.alloc j.out.size (.cells #[.int .i64 (m:Int),.int .i64 (z:Int),.int .i64 1,.int .i64 T,.bool true,.int .u64 (N:Int)] 55));obtain⟨B,XN⟩:=yq0 (yq8 HR i) l;clear d l;go_wp2_with fail;refine (L.out _ B.out).mono ?_;rintro e S ⟨⟨A2,c2,rfl,-,-⟩,b⟩;have k:=yq7 i b;have Kb:=yq9 B b;have x2:=XN.out.up b XN.out.lt;obtain⟨p0,p1,-⟩:=x2.c6;clear b x2;go_wp2_with fail;refine (J.out _ Kb.out).mono ?_;rintro e w3 ⟨⟨A3,c3,rfl,v⟩,h⟩;have u:=yq7 k h;have Km:=y5 (Rd.of_own v);clear v h p0 p1;go_wp2_with fail;refine (Kc.out _ _ (by omega)).mono ?_;rintro e V ⟨rfl,C⟩;have v:=yq7 u C;have Kn:=yq9 Km C;clear C
   go_wp2_with (at_builtin;refine aW _ (by rfl) _ _ 26 rfl V.heap.size 89 i0 _ 2 16 underlying26 HI.out Kd.out Ke.out Kf.out rfl (by decide) (.slice (some ⟨V.heap.size,0,none⟩) 1 1) 1 [.int .i64 17,.int .u64 ((m:Int)+(z:Int))] (by rfl) (a8 (n:=1) (sz:=2) V 89 #[.int .i64 17,.int .u64 ((m:Int)+(z:Int))] (kqa _) (by rfl) (by unfold maxLen;omega)) V.heap.size (A3) (E.length) c3 (E.flatMap En.cells) (by rfl) (by rw[bU En.cells 2 En.len]) (Rd.alloc (Kn.out) (kqa _) _) (db En.one _) (by unfold maxLen;omega) (by omega) (by simp) ?_;intro v1 wa g P;have M:=bi ((kqe V.heap.size V).alloc (kqa _) _) (by simp) (a8 (n:=1) (sz:=2) V 89 #[.int .i64 17,.int .u64 ((m:Int)+(z:Int))] (kqa _) (by rfl) (by unfold maxLen;omega)) P;have I:=y5 g;have Ka:=y5 M;clear g M P);have U:=ab I.out v.out.size;rw[kjj] at U;obtain⟨A9,c9,rfl⟩:=aw U;have H1:=y5 U;clear U;go_ret2;rw[W.out];refine⟨⟨A9,c9,rfl,?_⟩,v.out.trans (Ka.out.mono v.out.size)⟩;have h2:=H1.out;rw[<-Kg.out] at h2;exact h2
  have W:=y5 (show fe G f=(cM G (m:Int),[]) by rw[Z.out,<-X.out];exact Kl.out s D);have R:(cM G (m:Int) != 0)=true:=by rw[kqx];exact D
  obtain⟨r,F⟩:∃r,cM G (m:Int)=r:=⟨_,rfl⟩;obtain⟨E,O⟩:∃E,cB G (m:Int)=E:=⟨_,rfl⟩;rw[O,F] at J;rw[F] at W R;clear s Eq Q D O F;go_wp2_with fail;refine Y.out.mono ?_;rintro e w1 ⟨rfl,d⟩;have j:=y5 (H.out.trans (d.mono hz));have l:=Bx.new w1 55 #[.int .i64 (m:Int),.int .i64 (z:Int),.int .i64 1,.int .i64 T,.bool true,.int .u64 (N:Int)];have i:=y5 (j.out.alloc j.out.size (.cells #[.int .i64 (m:Int),.int .i64 (z:Int),.int .i64 1,.int .i64 T,.bool true,.int .u64 (N:Int)] 55));obtain⟨B,XN⟩:=yq0 (yq8 HR i) l;clear d l;go_wp2_with fail;refine (L.out _ B.out).mono ?_;rintro e S ⟨⟨A2,c2,rfl,-,-⟩,b⟩;have k:=yq7 i b;have Kb:=yq9 B b;have x2:=XN.out.up b XN.out.lt;obtain⟨p0,p1,-⟩:=x2.c6;clear b x2;go_wp2_with fail;refine (J.out _ Kb.out).mono ?_;rintro e w3 ⟨⟨A3,c3,rfl,-⟩,h⟩;have u:=yq7 k h;clear h p0 p1;go_wp2;go_ret2;rw[W.out];exact⟨bZ rfl rfl,u.out⟩
 have W:=y5 (show fe G f=(0,cc) by rw[Z.out,<-X.out];exact iX p);have R:(bu G (a:Int) != 0)=true:=by rw[kqx];exact p
 obtain⟨r,F⟩:∃r,bu G (a:Int)=r:=⟨_,rfl⟩;obtain⟨B,g⟩:∃B,iI G (a:Int)=B:=⟨_,rfl⟩;rw[F,g] at Y;rw[F] at R;obtain⟨i,E,l,I,s,z⟩:=B;unfold Bk.val at Y;dsimp only at Y;clear p F g hB;go_wp2_with fail;refine Y.out.mono ?_;rintro e w1 ⟨rfl,d⟩;have j:=y5 ((H.out.trans (d.mono hz)).alloc (kzu H.out.size d.size) (.cells #[.int .i64 i,.int .i64 E,.int .i64 l,.int .i64 I,.bool s,.int .u64 (z:Int)] 55));clear d;go_wp2_with fail;refine (Kr.out 4 _ (by omega)).mono ?_;rintro e S ⟨rfl,b⟩;have k:=yq7 j b;clear b;go_wp2_with fail;refine (Kc.out 128 _ (by omega)).mono ?_;rintro e w3 ⟨rfl,h⟩;have u:=yq7 k h;clear h;go_wp2_with fail;refine (Ks.out 128 _ (by omega)).mono ?_;rintro e V ⟨rfl,C⟩;have v:=yq7 u C;clear C;go_wp2;go_ret2;rw[W.out];exact⟨⟨some ⟨V.heap.size,0,none⟩,3,rfl,a8 (n:=3) (sz:=2) V 89 #[.int .i64 16,.int .u64 4,.int .i64 17,.int .u64 128,.int .i64 18,.int .u64 128] v.out.size rfl (by unfold maxLen;omega)⟩,v.out.alloc v.out.size _⟩
theorem Jv(A:Option Addr)(G:List Nat)(c n:Nat)(w:World)(a:G.length=n)(hm:n<=9223372036854775807)(hc:n<=c)(hr:RdW w w.heap.size A G)(Z:∀x∈G,x<2^64):
 Calls prog 91 #[.slice A n c] w λe V=>ey w.heap.size (ah G).1 (ah G).2 e V/\Below w.heap.size w V:=by
 subst a;obtain⟨P,D,o⟩:=yq1 hr (r8 A G c G.length w rfl hm hc hr Z) (λW (h:RdW W W.heap.size A G)=>vH A G c G.length W rfl hm hc h Z);by_cases M:aB G=0
 .obtain ⟨Y,hs,hl,L⟩:=cP M;have J:=jH M;have hb:=(ae _).1 hs;obtain⟨⟨l1,l2,l3⟩,-⟩:=(bo G).1 hl;have O:lnV G=phV (wd G 16) (wd G 17) (wd G 18):=by unfold lnV;rw[if_pos J]
  rw[O,J] at o;rw[M] at D;unfold phV at o;have Kk:G.length<=2048:=(by omega);obtain⟨f,hf⟩:=xq (wd G 17);obtain⟨t,ht⟩:=xq (wd G 18);rw[hf,ht] at o;rw[hf] at l2;rw[ht] at l3;by_cases p1:wd G 16=1
  .rw[p1] at o;simp only[kq1] at o;have u:=y5 (λW (h:RdW W W.heap.size A G)=>xx A G c G.length W rfl hm h Z);unfold ey at u;by_cases k:aK G=0
   .have C:=y5 (show ah G=(0,iA (aO G) 2) by unfold ah;rw[if_pos M,if_pos p1,if_pos k]);have T:(aO G).length<=1024:=by rw[eM k,kzw];have h1:=mR (seenL G) (aa G);have h2:=dI G;omega
    rw[k] at u;obtain⟨E,B⟩:=xq (aO G);rw[B] at u C T;have Q:=y5 (λA1 c1 H W N hH=>rH A1 E c1 E.length 2 H W rfl (by omega) (by omega) N hH);clear hr Z M Y hs hl L J O hf ht p1 k B hb l1 l2 l3;go_enter func91,ntmps91;go_wp2_with fail;refine D.out.mono ?_;rintro e w1 ⟨rfl,i⟩;have d:=y5 i;clear i;go_wp2_with fail;refine (o.out _ (yq8 P d)).mono ?_;rintro e F ⟨rfl,j⟩;have g:=d.out.trans (j.mono d.out.size);obtain⟨XN,b⟩:=yq0 (Bx.new F 107 #[.int .i64 1,.int .i64 (f:Int),.int .i64 (t:Int)]) (g.alloc g.size (.cells #[.int .i64 1,.int .i64 (f:Int),.int .i64 (t:Int)] 107));have s:=y5 (yq8 P b);clear j g;go_wp2_with fail;obtain⟨q0,q1,q2,-⟩:=XN.out.c3;refine (u.out _ s.out).mono ?_;rintro e I ⟨⟨X,c3,rfl,a⟩,l⟩;have m:=yq7 b l;have z:=y5 (ab a b.out.size);clear a l q0 q1 q2;go_wp2_with fail;refine (Q.out _ _ _ _ z.out m.out.size).mono ?_;rintro e w4 ⟨⟨A4,c4,rfl,v⟩,K⟩;have y:=yq7 m K;have R:=y5 v;clear v K;go_wp2;go_ret2;rw[C.out];exact⟨⟨A4,c4,rfl,R.out⟩,y.out⟩
   have C:=y5 (show ah G=(aK G,[]) by unfold ah;rw[if_pos M,if_pos p1,if_neg k]);have U:(aK G != 0)=true:=by rw[kqx];exact k
   obtain⟨E,B⟩:=xq (aO G);obtain⟨r,q⟩:=xq (aK G);rw[B,q] at u;rw[q] at C U;clear hr Z M Y hs hl L J O hf ht p1 k B hb l1 l2 l3 q;go_enter func91,ntmps91;go_wp2_with fail;refine D.out.mono ?_;rintro e w1 ⟨rfl,i⟩;have d:=y5 i;clear i;go_wp2_with fail;refine (o.out _ (yq8 P d)).mono ?_;rintro e F ⟨rfl,j⟩;have g:=d.out.trans (j.mono d.out.size);obtain⟨XN,b⟩:=yq0 (Bx.new F 107 #[.int .i64 1,.int .i64 (f:Int),.int .i64 (t:Int)]) (g.alloc g.size (.cells #[.int .i64 1,.int .i64 (f:Int),.int .i64 (t:Int)] 107));have s:=y5 (yq8 P b);clear j g;go_wp2_with fail;refine (u.out _ s.out).mono ?_;rintro e I ⟨⟨X,c3,rfl,-⟩,l⟩;have m:=yq7 b l;clear l;go_wp2;go_ret2;rw[C.out];exact⟨bZ rfl rfl,m.out⟩
  by_cases p2:wd G 16=2
  .rw[p2] at o;simp only[kq1] at o;have u:=y5 (λW (h:RdW W W.heap.size A G)=>tX A G c G.length W rfl hm h Z);unfold ey at u;by_cases k:ao G=0
   .have C:=y5 (show ah G=(0,iA (aI G) 3) by unfold ah;rw[if_pos M,if_neg p1,if_pos p2,if_pos k]);have T:(aI G).length<=1024:=(qK k).1;rw[k] at u;obtain⟨E,B⟩:=xq (aI G);rw[B] at u C T;have Q:=y5 (λA1 c1 H W N hH=>rH A1 E c1 E.length 3 H W rfl (by omega) (by omega) N hH);clear hr Z M Y hs hl L J O hf ht p1 p2 k B hb l1 l2 l3;go_enter func91,ntmps91;go_wp2_with fail;refine D.out.mono ?_;rintro e w1 ⟨rfl,i⟩;have d:=y5 i;clear i;go_wp2_with fail;refine (o.out _ (yq8 P d)).mono ?_;rintro e F ⟨rfl,j⟩;have g:=d.out.trans (j.mono d.out.size);obtain⟨XN,b⟩:=yq0 (Bx.new F 107 #[.int .i64 2,.int .i64 (f:Int),.int .i64 (t:Int)]) (g.alloc g.size (.cells #[.int .i64 2,.int .i64 (f:Int),.int .i64 (t:Int)] 107));have s:=y5 (yq8 P b);clear j g;go_wp2_with fail;refine (u.out _ s.out).mono ?_;rintro e I ⟨⟨X,c3,rfl,a⟩,l⟩;have m:=yq7 b l;have z:=y5 (ab a b.out.size);clear a l;go_wp2_with fail;refine (Q.out _ _ _ _ z.out m.out.size).mono ?_;rintro e w4 ⟨⟨A4,c4,rfl,v⟩,K⟩;have y:=yq7 m K;have R:=y5 v;clear v K;go_wp2;go_ret2;rw[C.out];exact⟨⟨A4,c4,rfl,R.out⟩,y.out⟩
   have C:=y5 (show ah G=(ao G,[]) by unfold ah;rw[if_pos M,if_neg p1,if_pos p2,if_neg k]);have U:(ao G != 0)=true:=by rw[kqx];exact k
   obtain⟨E,B⟩:=xq (aI G);obtain⟨r,q⟩:=xq (ao G);rw[B,q] at u;rw[q] at C U;clear hr Z M Y hs hl L J O hf ht p1 p2 k B hb l1 l2 l3 q;go_enter func91,ntmps91;go_wp2_with fail;refine D.out.mono ?_;rintro e w1 ⟨rfl,i⟩;have d:=y5 i;clear i;go_wp2_with fail;refine (o.out _ (yq8 P d)).mono ?_;rintro e F ⟨rfl,j⟩;have g:=d.out.trans (j.mono d.out.size);obtain⟨XN,b⟩:=yq0 (Bx.new F 107 #[.int .i64 2,.int .i64 (f:Int),.int .i64 (t:Int)]) (g.alloc g.size (.cells #[.int .i64 2,.int .i64 (f:Int),.int .i64 (t:Int)] 107));have s:=y5 (yq8 P b);clear j g;go_wp2_with fail;refine (u.out _ s.out).mono ?_;rintro e I ⟨⟨X,c3,rfl,-⟩,l⟩;have m:=yq7 b l;clear l;go_wp2;go_ret2;rw[C.out];exact⟨bZ rfl rfl,m.out⟩
  by_cases p3:wd G 16=3
  .rw[p3] at o;simp only[kq1] at o;obtain⟨C,k⟩:=yq0 (show ah G=fe G f by unfold ah;rw[if_pos M,if_neg p1,if_neg p2,if_pos p3,Ei,hf]) (λW (h:RdW W W.heap.size A G)=>Hp A G c G.length f 3 (t:Int) W rfl Kk (by omega) h Z);unfold ey at k;obtain⟨r,q⟩:=xq ((fe G f).1);obtain⟨E,B⟩:=xq ((fe G f).2);have u:Hid (ah G=(r,E)):=y5 (by rw[C.out,<-q,<-B]);rw[q,B] at k;clear hr Z M Y hs hl L J O hf ht p1 p2 p3 hb l1 l2 l3 q B C;go_enter func91,ntmps91;go_wp2_with fail;refine D.out.mono ?_;rintro e w1 ⟨rfl,i⟩;have d:=y5 i;clear i;go_wp2_with fail;refine (o.out _ (yq8 P d)).mono ?_;rintro e F ⟨rfl,j⟩;have g:=d.out.trans (j.mono d.out.size);obtain⟨XN,b⟩:=yq0 (Bx.new F 107 #[.int .i64 3,.int .i64 (f:Int),.int .i64 (t:Int)]) (g.alloc g.size (.cells #[.int .i64 3,.int .i64 (f:Int),.int .i64 (t:Int)] 107));have s:=y5 (yq8 P b);clear j g;go_wp2_with fail;refine (k.out _ s.out).mono ?_;rintro e I ⟨⟨X,c3,rfl,a⟩,l⟩;have m:=yq7 b l;have z:=y5 (ab a b.out.size);clear a l;go_wp2;go_ret2;rw[u.out];exact⟨⟨X,c3,rfl,z.out⟩,m.out⟩
  by_cases p4:wd G 16=4
  .rw[p4] at o;simp only[kq1] at o;have Kh:=(cy _ _ _).1 L;have Q:=y5 (λW (h:RdW W W.heap.size A G)=>Gq A G c G.length ((f:Nat):Int) W rfl hm (by omega) h Z);have Ks:Hid (∀(v:Int) (W:World),0<=v/\v<=9223372036854775807->Calls prog 147 #[.int .i64 1,.int .i64 v] W λe V=>e=.returned (.agg #[.int .i64 17,.int .u64 v])/\Below W.heap.size W V):=y5 λv W a=>km 1 v W (by omega) a;have Kt:Hid (∀(v:Int) (W:World),0<=v/\v<=9223372036854775807->Calls prog 147 #[.int .i64 2,.int .i64 v] W λe V=>e=.returned (.agg #[.int .i64 18,.int .u64 v])/\Below W.heap.size W V):=y5 λv W a=>km 2 v W (by omega) a;have Kb:ah G=sgSld G:=by unfold ah;rw[if_pos M,if_neg p1,if_neg p2,if_neg p3,if_pos p4]
   by_cases V:bu G (f:Int)=0
   .obtain ⟨-,a1,a2,m,em,m1,m2,m3,m4,m5,m6,m7,m8,-⟩:=fA V;have Kd:(iI G (f:Int)).val=.agg #[.int .i64 (m:Int),.int .i64 ((szAt G m:Nat):Int),.int .i64 1,.int .i64 (bkAt G m).typ,.bool true,.int .u64 ((bkAt G m).next:Int)]:=by rw[em];unfold Bk.val;rw[m7,m8];rfl
    rw[Kd,V] at Q;have Ka:=y5 (λW (h:RdW W W.heap.size A G)=>Fc A G c G.length (m:Int) (t:Int) W rfl hm (by omega) (by omega) h Z);unfold ey at Ka;by_cases W:ei G (m:Int) (t:Int)=0
    .have e2:sgSld G=(0,⟨17,m+szAt G m⟩::⟨18,t+szAt G m⟩::i9 G (m:Int) (t:Int)):=by unfold sgSld;rw[hf,ht,if_pos V,em,af,if_pos W,aU,show ((m:Int)+((szAt G m:Nat):Int)).toNat=m+szAt G m by omega,show ((t:Int)+((szAt G m:Nat):Int)).toNat=t+szAt G m by omega]
     have C:=y5 (Kb.trans e2);obtain⟨a,u,k,R,X,en,n2,n10,hu,Kc,Eq,-⟩:=fO W;have R:m=a:=(by omega);have X:t=u:=(by omega);subst R X;have Kx:(i9 G (m:Int) (t:Int)).length<=10:=by unfold i9;rw[if_pos W,kqf,kqf,ic];omega
     rw[W] at Ka;obtain⟨z,H⟩:=xq (szAt G m);obtain⟨T,hT⟩:=xq ((bkAt G m).typ);obtain⟨N,hN⟩:=xq ((bkAt G m).next);obtain⟨E,B⟩:∃E,i9 G (m:Int) (t:Int)=E:=⟨_,rfl⟩;rw[H,hT,hN] at Q;rw[H,B] at C;rw[H] at m3 m5;rw[B] at Ka Kx;have waz:IntKind.i64.wrap ((m:Int)+(z:Int))=(m:Int)+(z:Int):=kqo _ (by omega);have wuz:IntKind.i64.wrap ((t:Int)+(z:Int))=(t:Int)+(z:Int):=kqo _ (by omega);have Km:Hid ((((m+z:Nat)):Int)=(m:Int)+(z:Int)):=y5 (by omega);have Kn:Hid ((((t+z:Nat)):Int)=(t:Int)+(z:Int)):=y5 (by omega);have hz10:2<=z:=m3;have haz:m+z<=G.length:=m5;have huz:t+z<=G.length:=(by omega);obtain⟨i0,hi,v,K,H⟩:=kzh bE;obtain⟨HI,Ku,Kv,Kw⟩:=yq2 hi v K H;clear hi v K H;clear hr Z M Y hs hl L J O hf p1 p2 p3 p4 hb l1 l2 l3 Kh Kb V a1 a2 em m1 m2 m3 m4 m5 m6 m7 m8 Kd W e2 R X en n2 n10 hu Kc Eq H hT hN B;go_enter func91,ntmps91;go_wp2_with fail;refine D.out.mono ?_;rintro e w1 ⟨rfl,i⟩;have d:=y5 i;clear i;go_wp2_with fail;refine (o.out _ (yq8 P d)).mono ?_;rintro e F ⟨rfl,j⟩;have g:=d.out.trans (j.mono d.out.size);obtain⟨XN,b⟩:=yq0 (Bx.new F 107 #[.int .i64 4,.int .i64 (f:Int),.int .i64 (t:Int)]) (g.alloc g.size (.cells #[.int .i64 4,.int .i64 (f:Int),.int .i64 (t:Int)] 107));have s:=y5 (yq8 P b);clear j g;go_wp2_with fail;obtain⟨q0,q1,q2,-⟩:=XN.out.c3;refine (Q.out _ s.out).mono ?_;rintro e I ⟨rfl,l⟩;have v:=b.out.trans (l.mono b.out.size);obtain⟨XB,y⟩:=yq0 (Bx.new I 55 #[.int .i64 (m:Int),.int .i64 (z:Int),.int .i64 1,.int .i64 T,.bool true,.int .u64 (N:Int)]) (v.alloc v.size (.cells #[.int .i64 (m:Int),.int .i64 (z:Int),.int .i64 1,.int .i64 T,.bool true,.int .u64 (N:Int)] 55));have Kg:=y5 (yq8 P y)
     have XP4:=y5 ((XN.out.up l XN.out.lt).alloc (.cells #[.int .i64 (m:Int),.int .i64 (z:Int),.int .i64 1,.int .i64 T,.bool true,.int .u64 (N:Int)] 55));clear l v q0 q1 q2;obtain⟨q0,q1,q2,-⟩:=XP4.out.c3;obtain⟨b0,b1,-⟩:=XB.out.c6;go_wp2_with fail;refine (Ka.out _ Kg.out).mono ?_;rintro e w5 ⟨⟨A5,c5,rfl,K⟩,Eq⟩;have Ke:=yq7 y Eq;have Ko:=y5 (Rd.of_own K);have R:=XB.out.up Eq XB.out.lt;have X:=XP4.out.up Eq XP4.out.lt;obtain⟨X5,Y5⟩:=yq0 R X;clear q0 q1 q2 b0 b1 K Eq;obtain⟨-,-,r2,-,-,-,gr⟩:=X.c3;obtain⟨s0,s1,-,-,-,-,-,gs⟩:=R.c6;clear R X;go_wp2_with fail;refine kz4 (S:=λX:World=>X.cell? ⟨I.heap.size,0,none⟩=some (.int .i64 (m:Int))/\X.cell? ⟨I.heap.size,1,none⟩=some (.int .i64 (z:Int))/\X.cell? ⟨F.heap.size,2,none⟩=some (.int .i64 (t:Int))) (by kernel_rfl) ⟨s0,s1,r2⟩ (λX=>?_);show wpAnyH _ _ _ _ _ 17 _ _ _;refine tj 0 (.pointer (some ⟨I.heap.size,0,none⟩)) ?_;refine tj 1 (.int .i64 (m:Int)) ?_;refine tj 2 (.pointer (some ⟨I.heap.size,1,none⟩)) ?_;refine tj 3 (.int .i64 (z:Int)) ?_;refine tj 4 (.int .i64 ((m:Int)+(z:Int))) ?_;refine tj 6 (.pointer (some ⟨F.heap.size,2,none⟩)) ?_;refine tj 7 (.int .i64 (t:Int)) ?_;refine tj 8 (.pointer (some ⟨I.heap.size,1,none⟩)) ?_;refine tj 9 (.int .i64 (z:Int)) ?_;refine tj 10 (.int .i64 ((t:Int)+(z:Int))) ?_;refine tj 13 (.slice A5 E.length c5) ?_
     dsimp only[Act.put,kqr,kqn,kql,kqd,kqk,kqj];simp only[kqd,kqk,kqj];refine kzr (rs:=[5]) (by kernel_rfl) (by simp) ?_;refine AllReadyH.cons rfl (λK hK=>?_) AllReadyH.nil;go_simp;refine (Ks.out _ _ (by omega)).mono ?_;rintro e w6 ⟨rfl,R⟩;go_simp;obtain⟨Ki,Kp⟩:=yq0 (Ke.out.trans (((kqe w5.heap.size w5).drew.trans R).mono Ke.out.size)) (Ko.out.up ((kqe w5.heap.size w5).drew.trans R) R.size);have s0:=(R.cell (p:=⟨I.heap.size,0,none⟩) gs).trans s0;have s1:=(R.cell (p:=⟨I.heap.size,1,none⟩) gs).trans s1;have r2:=(R.cell (p:=⟨F.heap.size,2,none⟩) gr).trans r2;have gs:I.heap.size<w6.heap.size:=kxm gs R.size;have gr:F.heap.size<w6.heap.size:=kxm gr R.size;refine hK.out _ _ ⟨s0,s1,r2⟩ (λKc=>?_);clear hK K R X;refine kzr (rs:=[11]) (by kernel_rfl) (by simp) ?_;refine AllReadyH.cons rfl (λK hK=>?_) AllReadyH.nil;go_simp;refine (Kt.out _ _ (by omega)).mono ?_;rintro e X ⟨rfl,R⟩;go_simp;have Kf:=yq7 Ki R;have Kq:=yq9 Kp R;have s0:=(R.cell (p:=⟨I.heap.size,0,none⟩) gs).trans s0;have s1:=(R.cell (p:=⟨I.heap.size,1,none⟩) gs).trans s1
     have r2:=(R.cell (p:=⟨F.heap.size,2,none⟩) gr).trans r2;have gs:I.heap.size<X.heap.size:=kxm gs R.size;have gr:F.heap.size<X.heap.size:=kxm gr R.size;refine hK.out _ _ ⟨s0,s1,r2⟩ (λKj=>?_);clear hK K R Kc;refine kzr (rs:=[12]) (by kernel_rfl) (by simp) ?_;refine AllReadyH.cons rfl (λK hK=>?_) AllReadyH.nil;go_simp;refine hK.out _ _ ⟨(kzc X _ ⟨I.heap.size,0,none⟩ gs).trans s0,(kzc X _ ⟨I.heap.size,1,none⟩ gs).trans s1,(kzc X _ ⟨F.heap.size,2,none⟩ gr).trans r2⟩ (λKr=>?_);clear hK K Kj;refine kzr (rs:=[14]) (by kernel_rfl) (by simp) ?_;refine AllReadyH.cons rfl (λK hK=>?_) AllReadyH.nil;rw[if_pos (by rfl)];refine dD _ _ _ 26 (by rfl) X.heap.size 89 i0 _ 2 16 underlying26 HI.out Ku.out Kv.out Kw.out rfl (by decide) (.slice (some ⟨X.heap.size,0,none⟩) 2 2) 2 [.int .i64 17,.int .u64 ((m:Int)+(z:Int)),.int .i64 18,.int .u64 ((t:Int)+(z:Int))] (by rfl) (a8 (n:=2) (sz:=2) X 89 #[.int .i64 17,.int .u64 ((m:Int)+(z:Int)),.int .i64 18,.int .u64 ((t:Int)+(z:Int))] (kqa _) (by rfl) (by unfold maxLen;omega)) X.heap.size A5 E.length c5 (E.flatMap En.cells) (by rfl) (by rw[bU En.cells 2 En.len]) (Rd.alloc Kq.out (kqa _) _) (db En.one _) (by unfold maxLen;omega) (by omega) (by simp) ?_;intro v1 w8 Kc Kj
     have R:=bi ((kqe X.heap.size X).alloc (kqa _) _) (by simp) (a8 (n:=2) (sz:=2) X 89 #[.int .i64 17,.int .u64 ((m:Int)+(z:Int)),.int .i64 18,.int .u64 ((t:Int)+(z:Int))] (kqa _) (by rfl) (by unfold maxLen;omega)) Kj;refine hK.out _ _ ⟨(R.cell (p:=⟨I.heap.size,0,none⟩) gs).trans s0,(R.cell (p:=⟨I.heap.size,1,none⟩) gs).trans s1,(R.cell (p:=⟨F.heap.size,2,none⟩) gr).trans r2⟩ (λHS4=>?_);have Kl:=yq7 Kf R;have h1:=ab Kc Kf.out.size;rw[kjj] at h1;have H1:=y5 h1;clear hK K Kr R Kc Kj h1;simp only[Act.put,kqd,kqk,kqj];refine tj 15 (v1) ?_;refine tj 16 (.int .i64 0) ?_;dsimp only[Act.put,kqr,kqn,kql,kqd,kqk,kqj];refine kx0 (by kernel_rfl) ?_ _;obtain⟨K,R,rfl⟩:=aw H1.out;go_simp;go_wp2;go_ret2;rw[C.out];refine⟨⟨K,R,rfl,?_⟩,Kl.out⟩;have h2:=H1.out;rw[<-Km.out,<-Kn.out] at h2;exact h2
    have C:=y5 (show ah G=(ei G (m:Int) (t:Int),[]) by rw[Kb];unfold sgSld;rw[hf,ht,if_pos V,em,af,if_neg W]);have U:(ei G (m:Int) (t:Int) != 0)=true:=by rw[kqx];exact W
    obtain⟨z,H⟩:=xq (szAt G m);obtain⟨T,hT⟩:=xq ((bkAt G m).typ);obtain⟨N,hN⟩:=xq ((bkAt G m).next);obtain⟨E,B⟩:∃E,i9 G (m:Int) (t:Int)=E:=⟨_,rfl⟩;obtain⟨r,q⟩:∃r,ei G (m:Int) (t:Int)=r:=⟨_,rfl⟩;rw[H,hT,hN] at Q;rw[B,q] at Ka;rw[q] at C U;clear hr Z M Y hs hl L J O hf p1 p2 p3 p4 hb l1 l2 l3 Kh Kb V a1 a2 em m1 m2 m3 m4 m5 m6 m7 m8 Kd W H hT hN B q;go_enter func91,ntmps91;go_wp2_with fail;refine D.out.mono ?_;rintro e w1 ⟨rfl,i⟩;have d:=y5 i;clear i;go_wp2_with fail;refine (o.out _ (yq8 P d)).mono ?_;rintro e F ⟨rfl,j⟩;have g:=d.out.trans (j.mono d.out.size);obtain⟨XN,b⟩:=yq0 (Bx.new F 107 #[.int .i64 4,.int .i64 (f:Int),.int .i64 (t:Int)]) (g.alloc g.size (.cells #[.int .i64 4,.int .i64 (f:Int),.int .i64 (t:Int)] 107));have s:=y5 (yq8 P b);clear j g;go_wp2_with fail;obtain⟨q0,q1,q2,-⟩:=XN.out.c3;refine (Q.out _ s.out).mono ?_;rintro e I ⟨rfl,l⟩;have v:=b.out.trans (l.mono b.out.size);have XB:=y5 (Bx.new I 55 #[.int .i64 (m:Int),.int .i64 (z:Int),.int .i64 1,.int .i64 T,.bool true,.int .u64 (N:Int)])
    have y:=y5 (v.alloc v.size (.cells #[.int .i64 (m:Int),.int .i64 (z:Int),.int .i64 1,.int .i64 T,.bool true,.int .u64 (N:Int)] 55));obtain⟨Kg,XP4⟩:=yq0 (yq8 P y) ((XN.out.up l XN.out.lt).alloc (.cells #[.int .i64 (m:Int),.int .i64 (z:Int),.int .i64 1,.int .i64 T,.bool true,.int .u64 (N:Int)] 55));clear l v q0 q1 q2;obtain⟨q0,q1,q2,-⟩:=XP4.out.c3;obtain⟨b0,b1,-⟩:=XB.out.c6;go_wp2_with fail;refine (Ka.out _ Kg.out).mono ?_;rintro e w5 ⟨⟨A5,c5,rfl,-⟩,Eq⟩;have Ke:=yq7 y Eq;clear q0 q1 q2 b0 b1 Eq;go_wp2;go_ret2;rw[C.out];exact⟨bZ rfl rfl,Ke.out⟩
   have C:=y5 (show ah G=(6,[]) by rw[Kb];unfold sgSld;rw[hf,if_neg V]);have U:(bu G (f:Int) != 0)=true:=by rw[kqx];exact V
   obtain⟨r,q⟩:∃r,bu G (f:Int)=r:=⟨_,rfl⟩;obtain⟨B,a⟩:∃B,iI G (f:Int)=B:=⟨_,rfl⟩;rw[q,a] at Q;rw[q] at U;obtain⟨k,E,m,H,u,z⟩:=B;unfold Bk.val at Q;dsimp only at Q;clear hr Z M Y hs hl L J O hf p1 p2 p3 p4 hb l1 l2 l3 Kh Kb V q a;go_enter func91,ntmps91;go_wp2_with fail;refine D.out.mono ?_;rintro e w1 ⟨rfl,i⟩;have d:=y5 i;clear i;go_wp2_with fail;refine (o.out _ (yq8 P d)).mono ?_;rintro e F ⟨rfl,j⟩;have g:=d.out.trans (j.mono d.out.size);obtain⟨XN,b⟩:=yq0 (Bx.new F 107 #[.int .i64 4,.int .i64 (f:Int),.int .i64 (t:Int)]) (g.alloc g.size (.cells #[.int .i64 4,.int .i64 (f:Int),.int .i64 (t:Int)] 107));have s:=y5 (yq8 P b);clear j g;go_wp2_with fail;obtain⟨q0,q1,q2,-⟩:=XN.out.c3;refine (Q.out _ s.out).mono ?_;rintro e I ⟨rfl,l⟩;have v:=b.out.trans (l.mono b.out.size);have y:=y5 (v.alloc v.size (.cells #[.int .i64 k,.int .i64 E,.int .i64 m,.int .i64 H,.bool u,.int .u64 (z:Int)] 55));clear l v q0 q1 q2;go_wp2;go_ret2;rw[C.out];exact⟨bZ rfl rfl,y.out⟩
  have a:wd G 16=0:=by rcases (cy _ _ _).1 L with h|h|h<;>omega
  rw[a] at o;simp only[kq1] at o;have C:=y5 (show ah G=(6,[]) by unfold ah;rw[if_pos M,if_neg p1,if_neg p2,if_neg p3,if_neg p4]);clear hr Z M Y hs hl L J O hf ht p1 p2 p3 p4 a hb l1 l2 l3;go_enter func91,ntmps91;go_wp2_with fail;refine D.out.mono ?_;rintro e w1 ⟨rfl,i⟩;have d:=y5 i;clear i;go_wp2_with fail;refine (o.out _ (yq8 P d)).mono ?_;rintro e F ⟨rfl,j⟩;have g:=d.out.trans (j.mono d.out.size);obtain⟨XN,b⟩:=yq0 (Bx.new F 107 #[.int .i64 0,.int .i64 (f:Int),.int .i64 (t:Int)]) (g.alloc g.size (.cells #[.int .i64 0,.int .i64 (f:Int),.int .i64 (t:Int)] 107));have s:=y5 (yq8 P b);clear j g;go_wp2;go_ret2;rw[C.out];exact⟨bZ rfl rfl,b.out⟩
 have C:=y5 (show ah G=(aB G,[]) by unfold ah;rw[if_neg M]);have U:(aB G != 0)=true:=by rw[kqx];exact M
 obtain⟨r,q⟩:=xq (aB G);rw[q] at D C U;clear hr Z M q o;go_enter func91,ntmps91;go_wp2_with fail;refine D.out.mono ?_;rintro e w1 ⟨rfl,i⟩;go_wp2;go_ret2;rw[C.out];exact⟨bZ rfl rfl,i⟩
theorem cd{w':World}{sz:Nat}{v:Value}{xs:List Value}{row:Option Nat}(h:w.ownsRow H e sz v n xs)(l:w.grownBy w' row)(f:v.ownBlock=none\/v.ownBlock≠row):w'.ownsRow H e sz v n xs:=by
 refine⟨h.1,?_⟩;rcases h.2 with c|⟨g,a,b,c,j,i,k⟩
 .exact .inl c
 subst c;refine .inr ⟨g,a,b,rfl,j,?_,k⟩;have d:=(kjk.1 i).1;refine (l.block g d ?_).trans i;rcases f with c|c
 .simp[Value.ownBlock] at c
 exact c
end Go.Proofs.YtpcajamacpbjcaaGreat
