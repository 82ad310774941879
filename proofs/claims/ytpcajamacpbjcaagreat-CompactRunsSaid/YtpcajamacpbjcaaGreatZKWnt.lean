import Derived.Test.YtpcajamacpbjcaaGreatZKRch
import Derived.Test.YtpcajamacpbjcaaGreatZKMove
set_option maxHeartbeats 16000000
set_option maxRecDepth 100000
set_option linter.all false
namespace Go.Proofs.YtpcajamacpbjcaaGreat
open Go.RowKit
variable {a r:Int}{R l:List Bk}{S:List Bool}{G:List Nat}{H c g j k n sz:Nat}{e:TypeId}{v:Value}{w w':World}
open Go.Proofs.Tryz
def uX (H:Nat) (G:List Nat) (a:Int) (e:Ending) (w':World):Prop:=∃A c,e=.returned (.tuple #[.slice A (aS G a).length c,.int .i64 (cp G a)])/\w'.ownsRow H 55 6 (.slice A (aS G a).length c) (aS G a).length ((aS G a).flatMap Bk.cells)
theorem jD(c:cp G a=r)(b:r≠0):uX H G a (.returned (.tuple #[.slice none 0 0,.int .i64 r])) w':=by
 subst c;have:aS G a=[]:=by simp[aS,b]
 exact⟨none,0,by rw[this];rfl,by rw[this];exact kq3 _ _ _ _⟩
theorem xG(d:cp G a=0)(b:aS G a=l)(h:w'.ownsRow H 55 6 v l.length (l.flatMap Bk.cells)):uX H G a (.returned (.tuple #[v,.int .i64 0])) w':=by obtain⟨A,c,rfl⟩:=aw h;exact⟨A,c,by rw[b,d],by rw[b];exact h⟩
def CJ (H:Nat) (G:List Nat) (e:Ending) (w':World):Prop:=∃A c,e=.returned (.tuple #[.slice A (aa G).length c,.int .i64 (ao G)])/\w'.ownsRow H 55 6 (.slice A (aa G).length c) (aa G).length ((aa G).flatMap Bk.cells)
theorem lg(b:ao G=r)(a:r≠0):CJ H G (.returned (.tuple #[.slice none 0 0,.int .i64 r])) w':=by
 subst b;have:aa G=[]:=by simp[aa,a]
 exact⟨none,0,by rw[this];rfl,by rw[this];exact kq3 _ _ _ _⟩
theorem Ac(A:Option Addr)(G:List Nat)(c n:Nat)(a:Int)(w:World)(h:G.length=n)(f:n<=9223372036854775807)(d:RdW w w.heap.size A G)(b:∀x∈G,x<2^64):
 Calls prog 65 #[.slice A n c,.int .i64 a] w λe g=>uX w.heap.size G a e g/\Below w.heap.size w g:=by
 subst h;obtain⟨HR,HO⟩:=yq0 d b;clear d b;cases b:am (G.length:Int)
 .obtain⟨I,y⟩:=yq0 (bQ b) (f8 (a:=a) b);clear b;go_enter func65,ntmps65;go_wp2_with fail;refine (aJ A G.length c w f).mono ?_;rintro e s ⟨rfl,rfl⟩;rw[I.out];go_wp2;go_ret2;exact⟨jD y.out (by omega),kqe _ _⟩
 obtain⟨I,W⟩:=yq0 (aM b) b;have hb:=kB (aM b);obtain⟨g,hb2,d⟩:=hb;have R:=y5 d;clear b f d;by_cases d:128<=a/\a<=(G.length:Int)/\a%2=0
 .obtain ⟨a1,a2,b⟩:=d;have u:Hid (eU G.length a=false):=y5 (by
   simp only[eU,kzo,kqb,kqt];omega)
  have Y:(a%2 != 0)=false:=by rw[kqt];exact b
  have d1:decide (a<128)=false:=(by rw[kqb];omega);have d2:decide ((G.length:Int)<a)=false:=(by rw[kqb];omega);have Q:=y5 b;obtain⟨H,rfl⟩:=kqz (show 0<=a by omega);have d2n:decide (G.length<H)=false:=(by rw[kqb];omega);clear b;obtain⟨i2,J,b,o,f⟩:=kzh kQ;obtain⟨HJ,S,T,U⟩:=yq2 J b o f;clear J b o f;go_enter func65,ntmps65;go_wp2_with fail;refine (aJ A G.length c w (by omega)).mono ?_;rintro e s ⟨rfl,rfl⟩;rw[I.out];go_wp2_with fail;go_loopw [1,7] (λp v wr=>∃(i:Nat) (b:List Bk),p=.int .i64 i/\H<=i/\i<=G.length/\i%2=0/\blocks G H=(blocks G i).map (b ++ ·)/\b.length<=i/\wr.ownsRow w.heap.size 55 6 v b.length (b.flatMap Bk.cells)/\Below w.heap.size w wr) (λp _ _=>G.length-(intOf p).toNat)
  case atStart=>exact⟨H,[],rfl,kqa _,by omega,by have:=Q.out;omega,by simp,by simp,kq3 _ _ _ _,kqe _ _⟩
  obtain⟨i,b,rfl,q1,q2,q3,f,q5,h,t⟩:=hrel;have K:=t.size;obtain⟨V,r⟩:=yq0 q3 f;clear f;by_cases D:i<G.length
  .have p:i+1<G.length:=by have:=R.out;omega
   clear q3;have ik1:(i:Int)<(G.length:Int):=by omega
   cases f:stands G i
   .have m:=y5 (ft W.out u.out (by rw[kqf,r.out,dt D f];rfl));obtain⟨B,C⟩:=Ay f;have j:=y5 (mW A G c G.length i wr rfl (by omega) p (HR.out.up t K) HO.out);rw[B,C] at j;unfold mt Bk.val at j;dsimp only at j;clear f B C h;go_wp2_with fail;refine j.out.mono ?_;rintro e s ⟨rfl,k⟩;have g:=t.trans (k.mono K);go_wp2;go_ret2;exact⟨jD m.out (by omega),g.alloc g.size _⟩
   have E:=aC f;obtain⟨B,C⟩:=yZ f;have j:=y5 (mW A G c G.length i wr rfl (by omega) p (HR.out.up t K) HO.out);rw[B,C] at j;have q:=y5 (show blocks G H=(blocks G (i+szAt G i)).map ((b++[bkAt G i]) ++ ·) by
    rw[r.out,aT D f];cases blocks G (i+szAt G i)<;>simp)
   have v:=y5 (ce Bk.cells b (bkAt G i));have m:=aU G i;obtain⟨x,Z⟩:=xq (bkAt G i);obtain⟨z,F⟩:=xq (szAt G i);rw[Z] at j q v m;rw[F] at q E m;have HX:=y5 Z;obtain⟨L,xs,M,P,N,O⟩:=x;dsimp only at m;subst m;unfold Bk.val at j;dsimp only at j;obtain⟨z1,m,z3⟩:=E;have X:=y5 m;clear f B C Z F m;go_wp2_with fail;refine j.out.mono ?_;rintro e s ⟨rfl,k⟩;have g:=t.trans (k.mono K);have f:=ag h k (kqa _);have o:=g.size;go_wp2_with (at_builtin;refine kq7 _ rfl _ _ 48 rfl w.heap.size 55 i2 _ 6 48 underlying48 HJ.out S.out T.out U.out rfl (by decide) _ _ _ rfl ((f.alloc _).alloc _) ⟨_,0,none⟩ 1 1 [.int .i64 L,.int .i64 (z:Int),.int .i64 M,.int .i64 P,.bool N,.int .u64 (O:Int)] rfl rfl (lM _ _ _ (kqm _ _)) (by simp[Value.oneCell']) (by unfold maxLen;omega) (by omega) (by simp;omega) ?_;intro v1 C m k _;have j:Bx C s.heap.size 55 #[.int .i64 L,.int .i64 (z:Int),.int .i64 M,.int .i64 P,.bool N,.int .u64 (O:Int)]:=((Bx.new s 55 _).alloc _).grown k (qp f);have B:=ay (g.alloc o (.cells #[.int .i64 L,.int .i64 (z:Int),.int .i64 M,.int .i64 P,.bool N,.int .u64 (O:Int)] 55)) (by simp;omega) (f.alloc _) k;have hc1:C.cell? ⟨s.heap.size,1,none⟩=some (.int .i64 (z:Int)):=j.cell 1;have hf1:=j.frozen 1;have hl1:=j.lt;clear k j);go_roundw;exact⟨i+z,b++[⟨L,(z:Int),M,P,N,O⟩],by rw[kjo],by omega,by omega,by have:=V.out;have:=X.out;omega,q.out,by simp;omega,by rw[v.out,kqu];exact m,B⟩;simp[intOf];omega
  have J:i=G.length:=(by omega);have f:=y5 (cC W.out u.out (l:=b) (by rw[kqf,r.out,aH (by omega)];simp));clear J q3;go_wp2;go_ret2;exact⟨xG f.out.1 f.out.2 h,t⟩
 have y:=y5 (jy W.out (nL d));go_enter func65,ntmps65;go_wp2_with fail;refine (aJ A G.length c w (by omega)).mono ?_;rintro e s ⟨rfl,rfl⟩;rw[I.out];by_cases h1:a<128
 .clear d;go_wp2;go_ret2;exact⟨jD y.out (by omega),kqe _ _⟩
 by_cases h2:(G.length:Int)<a
 .clear d;go_wp2;go_ret2;exact⟨jD y.out (by omega),kqe _ _⟩
 have Y:(a%2 != 0)=true:=(by rw[kqx];omega);have d1:decide (a<128)=false:=(by rw[kqb];omega);have d2:decide ((G.length:Int)<a)=false:=(by rw[kqb];omega);have a0:0<=a:=(by omega);clear d;go_wp2;go_ret2;exact⟨jD y.out (by omega),kqe _ _⟩
theorem DY(A:Option Addr)(G:List Nat)(c n:Nat)(w:World)(d:G.length=n)(U:n<=9223372036854775807)(f:RdW w w.heap.size A G)(a:∀x∈G,x<2^64):
 Calls prog 62 #[.slice A n c] w λe b=>CJ w.heap.size G e b/\Below w.heap.size w b:=by
 subst d;obtain⟨HR,HO,Q⟩:=yq1 f a (Ac A G c G.length 128 w rfl U f a);clear f a;cases a:am (G.length:Int)
 .obtain⟨i,b⟩:=yq0 (bQ a) (nV a);clear a;go_enter func62,ntmps62;go_wp2_with fail;refine (aJ A G.length c w U).mono ?_;rintro e E ⟨rfl,rfl⟩;rw[i.out];go_wp2;go_ret2;exact⟨lg b.out (by omega),kqe _ _⟩
 have i:=y5 (aM a);obtain⟨T,D,b⟩:=dA G a;have HS:=y5 a;clear a b;go_enter func62,ntmps62;go_wp2_with fail;refine (aJ A G.length c w U).mono ?_;rintro e E ⟨rfl,rfl⟩;rw[i.out];go_wp2_with fail;refine Q.out.mono ?_;rintro e E ⟨⟨A1,c1,rfl,b⟩,d⟩;have g:RdB E E.heap.size A1 (aS G 128):=Rd.of_own b;have o:=d.size;have L:=iP G 128;have a:Hid (cp G 128=0->am (G.length:Int)=true/\blocks G 128=some (aS G 128)):=y5 CX;have z:Hid (∀r,cp G 128=r->r≠0->ao G=r):=y5 (λ_ h j=>v6 h j);obtain⟨l,j⟩:=xq (aS G 128);rw[j] at g b L a |-;obtain⟨R,O⟩:=yq0 g b;obtain⟨r,f⟩:=xq (cp G 128);have P:=y5 f;rw[f] at a |-;clear f g b j;by_cases j:r=0
 .subst j;have y:=y5 (a.out rfl).2;clear a z;go_wp2_with fail;go_loopw [26] (λi wr=>∃k:Nat,k<=l.length/\i=.int .i64 k/\Hid ((l.take k).all (dQ G)=true)/\Below E.heap.size E wr) (λi _=>l.length-(intOf i).toNat)
  case atStart=>exact⟨0,kqv _,rfl,rfl,kqe _ _⟩
  obtain⟨k,hk,rfl,H,C⟩:=hrel;have X:=C.size;by_cases q:k<l.length
  .obtain ⟨b,off,rfl,hbw,q0,q1,q2,q3,q4,q5⟩:=RdB.at_ (R.out.below C) q;obtain⟨p,B,v⟩:=yq1 (λh=>gK y.out (by omega) q h) (λh=>vD q H.out h) (λh=>sB HS.out y.out (zT q h));obtain⟨x,g⟩:=xq (l[k]);rw[g] at q0 q1 q2 q3 q4 q5 p B v;obtain⟨i,I⟩:=yq0 (λh=>iC (G:=G) (b:=x) h) (λh=>eY (G:=G) (b:=x) h);have f:tyA x=96+2*x.typ.toNat:=rfl;rw[f] at i;obtain⟨Z,F,xk,xt,xm,xn⟩:=x;dsimp only at q0 q1 q2 q3 q4 q5 p i;have hlm:(k:Int)<(l.length:Int):=(by omega);clear g f;have u:=Bx.new wr 55 #[.int .i64 Z,.int .i64 F,.int .i64 xk,.int .i64 xt,.bool xm,.int .u64 (xn:Int)];by_cases f:xk=1
   .obtain ⟨t0,t8⟩:=p.out f;obtain⟨t,rfl⟩:=kqz t0;have s:=y5 (i.out f);simp only[kqf] at s;subst f;have HC:=y5 (λW (h:RdW W W.heap.size A G)=>sW A G c G.length t W rfl (by omega) T (by omega) h HO.out);have hz1w:=o;have S:=y5 ((((HR.out.up d o).up C X).alloc (kqa _) (.cells #[.int .i64 Z,.int .i64 F,.int .i64 1,.int .i64 (t:Int),.bool xm,.int .u64 (xn:Int)] 55)).more (B':=(wr.alloc (.cells #[.int .i64 Z,.int .i64 F,.int .i64 1,.int .i64 (t:Int),.bool xm,.int .u64 (xn:Int)] 55)).heap.size) (by simp));obtain⟨J,g⟩:=xq (wd G (96+2*t));obtain⟨N,h⟩:=xq (wd G (96+2*t+1));rw[g,h] at HC s;clear u g h i I p;go_wp2_with fail;refine (HC.out _ S.out).mono ?_;rintro e w2 ⟨⟨A2,c2,rfl,M,K⟩,g⟩;rw[kqm] at g;have m:=Bx.of_new g;have D:=C.trans ((az g).mono X);obtain⟨c0,c1',c2',c3,c4,c5,V,cz⟩:=m.c6;have h:=y5 D;clear M K m g D V;obtain⟨Y,K⟩:=xq (b8 J N);obtain⟨m,g⟩:=xq ((bB J N).length);have hm8:m<=255:=by
     rw[<-g];unfold bB;split
     .rw[dp];have:=kz3 J (show 0<256 by omega);omega
     simp
    rw[K,g] at s |-;clear K g;cases Y
    .have K:=y5 (v.out (by rw[s.out];rfl));go_wp2;go_ret2;exact⟨lg K.out (by omega),d.trans (h.out.mono o)⟩
    rw[kzx] at s;have W:((bp m:Nat):Int)=((m:Int)+3)/2*2:=by unfold bp;omega
    rw[W] at s;by_cases g:F=((m:Int)+3)/2*2
    .have V:(F != ((m:Int)+3)/2*2)=false:=by rw[kqt];exact g
     have M:=y5 (B.out (by rw[s.out,kqw];exact g));clear g;go_wp2;go_roundw;exact⟨k+1,by omega,by go_num,M.out,h.out⟩;simp[intOf];omega
    have V:(F != ((m:Int)+3)/2*2)=true:=by rw[kqx];exact g
    have K:=y5 (v.out (by rw[s.out,kqc];exact g));clear g;go_wp2;go_ret2;exact⟨lg K.out (by omega),d.trans (h.out.mono o)⟩
   have hk2:(xk != 1)=true:=by rw[kqx];exact f
   have M:=y5 (B.out (I.out f));clear f u;go_wp2;go_roundw;exact⟨k+1,by omega,by go_num,M.out,C.alloc X _⟩;simp[intOf];omega
  have b:=y5 (gI HS.out y.out (by have:=H.out;rwa [kza (by omega)] at this));go_wp2;go_ret2;exact⟨⟨A1,c1,by rw[b.out.1,b.out.2];rfl,by rw[b.out.2];exact ag O.out C (kqa _)⟩,d.trans (C.mono o)⟩
 have hn1:(r != 0)=true:=by rw[kqx];exact j
 obtain⟨e,b⟩:=yq0 (z.out r P.out j) j;clear j a z;go_wp2;go_ret2;exact⟨lg e.out b.out,d⟩
def dK (S:List Bool) (b:Bk):Bool:=b.mark==(S[b.at_.toNat]?.getD false)
theorem Cw(f g c n m:Nat)(S:List Bool)(xs j l:Int)(i:Bool)(k:Nat)(w:World)(hS:S.length=n)(hm:m<n)(q:f<w.heap.size)(a:w.cell? ⟨f,0,none⟩=some (.slice (some ⟨g,0,none⟩) n c))(h:Rd w w.heap.size (some ⟨g,0,none⟩) (S.flatMap bg)):
 Calls prog 204 #[.agg #[.int .i64 (m:Int),.int .i64 xs,.int .i64 j,.int .i64 l,.bool i,.int .u64 (k:Int)],.pointer (some ⟨f,0,none⟩)] w λe b=>e=.returned (.bool (i==(S[m]?.getD false)))/\Below w.heap.size w b:=by
 have hmi:(m:Int)<(n:Int):=(by omega);have hm0:(0:Int)<=(m:Int):=(by omega);obtain⟨b,off,p,r,e⟩:=Rd.at_flat gG h (by omega) (show m<S.length by omega);cases p;have d:=e 0 (by omega);have d:w.cell? ⟨g,m,none⟩=some (.bool (S[m]'(by omega))):=by simpa [bg] using d
 rw[show S[m]?.getD false=S[m]'(by omega) by rw[kqg (by omega)];rfl];obtain⟨y,o⟩:=xq (S[m]'(show m<S.length by omega));rw[o] at d |-;have q0:=(kzc w (.cells #[.int .i64 (m:Int),.int .i64 xs,.int .i64 j,.int .i64 l,.bool i,.int .u64 (k:Int)] 55) ⟨g,m,none⟩ r).trans d;have q1:=(kzc w (.cells #[.int .i64 (m:Int),.int .i64 xs,.int .i64 j,.int .i64 l,.bool i,.int .u64 (k:Int)] 55) ⟨f,0,none⟩ q).trans a;clear e h o d a;go_enter func204,ntmps204;go_wp2_with fail;go_quiet (fail);go_wp2;go_ret;exact⟨rfl,cF ((kqe _ _).alloc (kqa _) _) _⟩
def jm (S:List Bool) (l:List Bk) (k:Nat):Prop:=∀j,j<k->dK S (gk l j)=false
theorem jm.zero(S:List Bool)(l:List Bk):jm S l 0:=λj h=>absurd h (by omega)
theorem jm.succ(h:jm S l k)(b:dK S (gk l k)=false):jm S l (k+1):=λj hj=>by
 rcases kq8 j k with a|a
 .exact h j a
 .have:j=k:=(by omega);subst this;exact b
def Io (S:List Bool) (l:List Bk) (e:Ending):Prop:=(e=.returned (.int .i64 (-1))/\jm S l l.length)\/∃k:Nat,k<l.length/\e=.returned (.int .i64 (k:Int))/\jm S l k/\dK S (gk l k)=true
theorem xj(A:Option Addr)(l:List Bk)(S:List Bool)(t g c n Q:Nat)(w:World)(R:S.length=n)(hl:l.length<=2048)(b:∀k (T:k<l.length),∃m:Nat,l[k].at_=(m:Int)/\m<n)(d:RdB w w.heap.size A l)(f:t<w.heap.size)(a:w.cell? ⟨t,0,none⟩=some (.slice (some ⟨g,0,none⟩) n c))(h:Rd w w.heap.size (some ⟨g,0,none⟩) (S.flatMap bg)):
 Calls prog 251 #[.slice A l.length Q,.func (.func 204) #[] #[.pointer (some ⟨t,0,none⟩)]] w λe i=>Io S l e/\Below w.heap.size w i:=by
 obtain⟨O,j,P,C,N⟩:=yq3 d (And.intro f a) h b (λm z v B s y W r i o q=>Cw t g c n m S z v B s y W R r i o q);clear d f a h b;go_enter func251,ntmps251;go_wp2_with fail;go_loopw [8] (λi wr=>∃k:Nat,k<=l.length/\i=.int .i64 k/\Hid (jm S l k)/\Below w.heap.size w wr) (λi _=>l.length-(intOf i).toNat)
 case atStart=>exact⟨0,kqv _,rfl,jm.zero S l,kqe _ _⟩
 obtain⟨k,T,rfl,o,f⟩:=hrel;have G:=f.size;by_cases i:k<l.length
 .obtain ⟨b,off,rfl,hbw,H,I,J,K,L,M⟩:=RdB.at_ (Rd.below O.out f) i;obtain⟨m,q,D⟩:=C.out k i;have d:=y5 (λh=>o.out.succ h);have a:=y5 (show ∀r,dK S (gk l k)=r->Io S l (.returned (.int .i64 (k:Int)))\/r=false from λr u=>by
   cases r
   .exact .inr rfl
   exact .inl (.inr ⟨k,i,rfl,o.out,u⟩))
  rw[bG l k i] at d a;obtain⟨x,F⟩:=xq (l[k]);rw[F] at H I J K L M q d a;obtain⟨xa,z,v,B,s,y⟩:=x;dsimp only at H I J K L M q;subst q;have h:dK S ⟨(m:Int),z,v,B,s,y⟩=(s==(S[m]?.getD false)):=by unfold dK;dsimp only;rw[kqf]
  rw[h] at d a;have hlm:(k:Int)<(l.length:Int):=(by omega);have hk0:(0:Int)<=(k:Int):=(by omega);have E:=y5 (N.out m z v B s y wr D (by have:=j.out.1;omega) ((f.cell (p:=⟨t,0,none⟩) j.out.1).trans j.out.2) (P.out.up f G));obtain⟨r,u⟩:=xq ((s==(S[m]?.getD false)));rw[u] at E d a;clear F u h;go_wp2_with fail;refine E.out.mono ?_;rintro e w2 ⟨rfl,u⟩;have h:=f.trans (u.mono G);cases r
  .have q:=y5 (d.out rfl);go_wp2;go_roundw;exact⟨k+1,by omega,by go_num,q.out,h⟩;simp[intOf];omega
  have q:=y5 ((a.out true rfl).resolve_right (by decide));go_wp2;go_ret;exact⟨q.out,h⟩
 obtain rfl:k=l.length:=(by omega);go_wp2;go_ret;exact⟨.inl ⟨rfl,o.out⟩,f⟩
def s7 (xs:List Value):Nat->List Value->List Value
 | _,[]=>xs
 | o,v::vs=>s7 (xs.set o v) (o+1) vs
theorem ul(a:List Value):∀(b c:List Value) (o:Nat),s7 (a++c) (a.length+o) b=a++s7 c o b:=by
 intro b
 induction b with
 | nil=>intro c o;rfl
 | cons v b d =>intro c o;simp only[s7];rw[kvf _ _ (by omega),show a.length+o-a.length=o by omega,kki,d]
theorem AJ:∀(l:List Bk) (k:Nat) (x:Bk),k<l.length->s7 (l.flatMap Bk.cells) (k*6) x.cells=(l.set k x).flatMap Bk.cells:=by
 intro l
 induction l with
 | nil=>intro k x h;simp at h
 | cons b l c =>
  intro k x h;cases k with
  | zero=>rfl
  | succ k =>have a:=c k x (by simpa using h);rw[kzz,kqj,kzz,<-a,show (k+1)*6=b.cells.length+k*6 by show (k+1)*6=6+k*6;omega,ul]
theorem dC :∀(a:List Value) (o:Nat) (w:World) (b:List Value),w.ownsRow H e sz (.slice (some ⟨g,0,none⟩) n c) n b->(w.setCells g o a).ownsRow H e sz (.slice (some ⟨g,0,none⟩) n c) n (s7 b o a):=by
 intro a
 induction a with
 | nil=>intro o w b h;exact h
 | cons v a d=>intro o w b h;exact d (o+1) _ _ (h.stored o v).1
theorem jV{B b o:Nat}{cs:List Value}(h:Rd w B (some ⟨b,o,none⟩) cs)(a:b≠g)(c:Nat)(vs:List Value):Rd (w.setCells g c vs) B (some ⟨b,o,none⟩) cs:=by intro d;obtain⟨b',off,e,i,k⟩:=h d;cases e;refine⟨b,o,rfl,i,λj l=>?_⟩;rw[kjb g vs c w _ (λf _=>absurd f a)];exact k j l
theorem kp{P:Program}(w:World)(t e l:TypeId)(z:Value)(i:P.underlying t=some (.slice e))(k:∀w,(zeroValue e).run P w=.ok z w)(L:List Value)(b o n c:Nat)(f:(Builtin.zeroCells z.cells n).toList=L)(hn:0<n)(d:∀v∈L,v.oneCell'=true)(g:∀j,j<L.length->(w.cell? ⟨b,o+j,none⟩).isSome=true)(h:∀j,j<L.length->w.frozen? ⟨b,o+j,none⟩=false):
 (Builtin.clear_ #[t] l #[.slice (some ⟨b,o,none⟩) n c]).run P w=.ok (.tuple #[]) (w.setCells b o L):=by have a:=Go.run_storeCells_cells (P:=P) b o L 0 w (by simpa using g) (by simpa using h) d;simp only[kxb] at a;obtain⟨m,rfl⟩:∃m,n=m+1:=⟨n-1,by omega⟩;simp[Builtin.clear_,run_underlying i,k,f,a]
def lD (S:List Bool) (l:List Bk):List Bk:=l.filter λb=>!dK S b
theorem rX(h:jm S l l.length):lD S l=l:=by unfold lD;rw[kvr];intro b c;obtain⟨k,a,rfl⟩:=kqy c;have:=h k a;rw[bG l k a] at this;simp[this]
theorem Bu(h:jm S l k)(hk:k<=l.length):lD S (l.take k)=l.take k:=by refine rX λj a=>?_;rw[kq6] at a;have:=h j (by omega);rw[bG _ _ (by omega)] at this;rw[bG _ _ (by rw[kq6];omega),kjx];exact this
theorem nl(b:k<l.length):lD S (l.take (k+1))=lD S (l.take k)++(if dK S l[k]=true then [] else [l[k]]):=by unfold lD;rw[kqi b,kxa];congr 1;cases a:dK S l[k]<;>simp[a]
def ku (S:List Bool) (l R:List Bk) (k j:Nat):Prop:=k<j/\j<=l.length/\R.length=l.length/\R.take k=lD S (l.take j)/\R.drop j=l.drop j
theorem ku.get(h:ku S l R k j)(e:j<l.length):∃c:j<R.length,R[j]=l[j]:=by
 obtain⟨h1,c,h3,h4,d⟩:=h;refine⟨by omega,?_⟩;have a:(R.drop j)[0]? = R[j]?:=(by simp);have b:(l.drop j)[0]? = l[j]?:=(by simp);rw[d,b,kqg e,kqg (by omega)] at a;injection a with a;exact a.symm
theorem ku.drop1(h:ku S l R k j)(_hj:j<l.length):R.drop (j+1)=l.drop (j+1):=by have:=congrArg (List.drop 1) h.2.2.2.2;rwa [kxr,kxr] at this
theorem ku.first(b:k<l.length)(h:jm S l k)(a:dK S (gk l k)=true):ku S l l k (k+1):=by refine⟨by omega,by omega,rfl,?_,rfl⟩;rw[bG l k b] at a;rw[nl b,Bu h (by omega),if_pos a,kzf]
theorem ku.del(h:ku S l R k j)(a:j<l.length)(b:dK S l[j]=true):ku S l R k (j+1):=by refine⟨by have:=h.1;omega,by omega,h.2.2.1,?_,h.drop1 a⟩;rw[nl a,if_pos b,kzf];exact h.2.2.2.1
theorem ku.keep(h:ku S l R k j)(c:j<l.length)(g:dK S l[j]=false):ku S l (R.set k l[j]) (k+1) (j+1):=by
 obtain⟨d,e,a,b,f⟩:=h;refine⟨by omega,by omega,by rw[kq5];exact a,?_,?_⟩
 .rw[nl c,if_neg (by rw[g];simp),<-b,kqi (by rw[kq5];omega),List.getElem_set_self,kvs (kqa _)]
 rw[kvt (by omega)];exact ku.drop1 (S:=S) ⟨d,e,a,b,f⟩ c
theorem kP{z:Array Value}(h:v∈(Builtin.zeroCells z n).toList)(b:0<z.size):v∈z.toList:=by simp only[Builtin.zeroCells,Array.toList_map,kz9] at h;obtain⟨i,-,rfl⟩:=h;have a:i%z.size<z.size:=kz3 _ b;rw[getElem!_pos z _ a];exact Array.getElem_mem_toList a
theorem lC(z:Array Value)(n:Nat):(Builtin.zeroCells z n).toList.length=n*z.size:=by simp[Builtin.zeroCells]
theorem jC{xs:List Value}(h:w.ownsRow H e sz (.slice (some ⟨g,0,none⟩) n c) n xs)(o k:Nat)(hk:o+k<=n*sz):w.there g o k:=λj hj =>
 ⟨by rw[h.cellAt (o+j) (by omega),kqg (by have:=h.1;omega)];rfl,h.frozenAt (o+j)⟩
theorem Bl(w:World):(zeroValue 55).run prog w=.ok (.agg #[.int .i64 0,.int .i64 0,.int .i64 0,.int .i64 0,.bool false,.int .u64 0]) w:=by kernel_rfl
theorem Jy:(prog.info? 55).map (·.size)=some 6:=by kernel_rfl
theorem un(A:Option Addr)(l:List Bk)(S:List Bool)(z g c n C H:Nat)(w:World)(hS:S.length=n)(hl:l.length<=2048)(i:∀k (hk:k<l.length),∃m:Nat,l[k].at_=(m:Int)/\m<n)(a:w.ownsRow H 55 6 (.slice A l.length C) l.length (l.flatMap Bk.cells))(hH:H<=w.heap.size)(U:z<w.heap.size)(b:w.cell? ⟨z,0,none⟩=some (.slice (some ⟨g,0,none⟩) n c))(h:Rd w w.heap.size (some ⟨g,0,none⟩) (S.flatMap bg))(j:(Value.slice A l.length C).ownBlock≠some z)(q:(Value.slice A l.length C).ownBlock≠some g):
 Calls prog 203 #[.slice A l.length C,.func (.func 204) #[] #[.pointer (some ⟨z,0,none⟩)]] w λe d=>∃A' c',e=.returned (.slice A' (lD S l).length c')/\RdB d d.heap.size A' (lD S l)/\d.cell? ⟨z,0,none⟩=some (.slice (some ⟨g,0,none⟩) n c)/\Rd d d.heap.size (some ⟨g,0,none⟩) (S.flatMap bg)/\z<d.heap.size/\Below H w d:=by
 have Kb:=y5 (xj A l S z g c n C w hS hl i (Rd.of_own a) U b h);unfold Io at Kb;obtain⟨E,B,HS,Kl,HG,HC⟩:=yq4 a (And.intro U b) h i (And.intro j q) (λm t f u d s W y r v x=>Cw z g c n m S t f u d s W hS y r v x);clear a U b h i j q;go_enter func203,ntmps203;go_wp2_with fail;refine Kb.out.mono ?_;rintro e w1 ⟨⟨rfl,i⟩|⟨k,hk,rfl,i,D⟩,b⟩
 .obtain⟨x,q⟩:=yq0 ((Rd.of_own E.out).up b b.size) ((b.cell (p:=⟨z,0,none⟩) B.out.1).trans B.out.2);have r:=yq9 HS b;have v:=y5 (rX i);have hz:=b.size;have j:=b.mono hH;clear i;go_wp2;go_ret;rw[v.out];exact⟨A,C,rfl,x.out,q.out,r.out,by have:=B.out.1;omega,j⟩
 have HD:=y5 (ku.first hk i D);obtain⟨y,cL,eL⟩:=fa E.out (by omega);cases eL;have Ki:=gH E.out;have J:y≠z:=λh=>HG.out.1 (by rw[h];rfl);have K:y≠g:=λh=>HG.out.2 (by rw[h];rfl);obtain⟨Kn,q⟩:=yq0 (ag E.out b (kqa _)) ((b.cell (p:=⟨z,0,none⟩) B.out.1).trans B.out.2);have r:=yq9 HS b;have Km:=y5 (b.mono hH);have Kt:=b.size;have hwk:IntKind.i64.wrap ((k:Int)+1)=(k:Int)+1:=kqo _ (by omega);have hkm:((k:Int) == -1)=false:=(by rw[kqc];omega);clear i D b;go_wp2_with fail;go_loopw [5,6] (λv b wr=>∃(i j:Nat) (R:List Bk),v=.int .i64 i/\b=.int .i64 j/\Hid (ku S l R i j)/\wr.ownsRow H 55 6 (.slice (some ⟨y,0,none⟩) l.length C) l.length (R.flatMap Bk.cells)/\wr.cell? ⟨z,0,none⟩=some (.slice (some ⟨g,0,none⟩) n c)/\Rd wr wr.heap.size (some ⟨g,0,none⟩) (S.flatMap bg)/\w.heap.size<=wr.heap.size/\Below H w wr) (λ_ b _=>l.length-(intOf b).toNat)
 case atStart=>exact⟨k,k+1,l,rfl,by go_num,HD.out,Kn.out,q.out,r.out,Kt,Km.out⟩
 obtain⟨i,j,R,rfl,rfl,M,a,F,I,hz,U⟩:=hrel;have W:=M.out;by_cases G:j<l.length
 .obtain ⟨Kq,eR⟩:=W.get G;obtain⟨s1,s2,s3,-,-⟩:=W;obtain⟨b,off,eA,hbw,r,L,N,T,V,X⟩:=RdB.at_ (show RdB wr wr.heap.size _ _ from Rd.of_own a) Kq;cases eA;simp only[kxg] at r L N T V X;rw[eR] at r L N T V X;obtain⟨m,q,Kr⟩:=Kl.out j G;obtain⟨HK,v⟩:=yq0 (λh=>M.out.keep G h) (λh=>M.out.del G h);obtain⟨x,h⟩:=xq (l[j]);rw[h] at r L N T V X q HK v;obtain⟨xa,t,f,u,d,s⟩:=x;dsimp only at r L N T V X q;subst q;have D:dK S ⟨(m:Int),t,f,u,d,s⟩=(d==(S[m]?.getD false)):=by unfold dK;dsimp only;rw[kqf]
  rw[D] at HK v;have hlm:(j:Int)<(l.length:Int):=(by omega);have hj0:(0:Int)<=(j:Int):=(by omega);have Kp:(0:Int)<=(i:Int):=(by omega);have Kk:(i:Int)<(l.length:Int):=(by omega);have hgB:=B.out.1;obtain⟨Ka,BN,Kc,Q,O⟩:=yq3 (U.alloc (kzu hH hz) (.cells #[.int .i64 (m:Int),.int .i64 t,.int .i64 f,.int .i64 u,.bool d,.int .u64 (s:Int)] 55)) (Bx.new wr 55 #[.int .i64 (m:Int),.int .i64 t,.int .i64 f,.int .i64 u,.bool d,.int .u64 (s:Int)]) (a.alloc (.cells #[.int .i64 (m:Int),.int .i64 t,.int .i64 f,.int .i64 u,.bool d,.int .u64 (s:Int)] 55)) ((kzc wr (.cells #[.int .i64 (m:Int),.int .i64 t,.int .i64 f,.int .i64 u,.bool d,.int .u64 (s:Int)] 55) ⟨z,0,none⟩ (by show z<wr.heap.size;omega)).trans F) (Rd.more (Rd.alloc I (kqa _) (.cells #[.int .i64 (m:Int),.int .i64 t,.int .i64 f,.int .i64 u,.bool d,.int .u64 (s:Int)] 55)) (show wr.heap.size<=(wr.alloc (.cells #[.int .i64 (m:Int),.int .i64 t,.int .i64 f,.int .i64 u,.bool d,.int .u64 (s:Int)] 55)).heap.size by simp));have hgLw:=(a.lt y rfl).2;clear h D F I a;go_upto_region 8 with (fail);obtain⟨wn,h⟩:∃wn,wr.alloc (.cells #[.int .i64 (m:Int),.int .i64 t,.int .i64 f,.int .i64 u,.bool d,.int .u64 (s:Int)] 55)=wn:=⟨_,rfl⟩;rw[h] at Ka BN Kc Q O |-;have hszn:wn.heap.size=wr.heap.size+1:=by rw[<-h];simp
  clear h r L N T V X;have HQ:=y5 (HC.out m t f u d s wn Kr (by omega) Q.out O.out);obtain⟨r,h⟩:=xq ((d==(S[m]?.getD false)));rw[h] at HQ HK v;clear h;obtain⟨p0,p1,p2,p3,p4,p5,pf,Ko⟩:=BN.out.c6;go_wp2_with fail;refine HQ.out.mono ?_;rintro e Y ⟨rfl,h⟩;obtain⟨Z,L,Kf⟩:=yq1 (Ka.out.trans (h.mono (kzu hH (by omega)))) (ag Kc.out h (kqa _)) ((h.cell (p:=⟨z,0,none⟩) (by show z<wn.heap.size;omega)).trans Q.out);have Kd:=yq9 O h;have bn2:=BN.out.up h Ko;have hz2:=h.size;clear h p0 p1 p2 p3 p4 p5 pf;obtain⟨p0,p1,p2,p3,p4,p5,pf,hgn2⟩:=bn2.c6;cases r
  .have HY:=y5 (HK.out rfl);have h:Y.there y (i*6) (#[.int .i64 (m:Int),.int .i64 t,.int .i64 f,.int .i64 u,.bool d,.int .u64 (s:Int)]:Array Value).size:=jC L.out (i*6) 6 (by omega);have Kj:(prog.info? 55).map (·.size)=some (#[.int .i64 (m:Int),.int .i64 t,.int .i64 f,.int .i64 u,.bool d,.int .u64 (s:Int)]:Array Value).size:=Jy;have Kh:(#[.int .i64 (m:Int),.int .i64 t,.int .i64 f,.int .i64 u,.bool d,.int .u64 (s:Int)]:Array Value).all (·.oneCell')=true:=by simp[Value.oneCell']
   have N:=y5 (dC (Bk.cells ⟨(m:Int),t,f,u,d,s⟩) (i*6) Y _ L.out);rw[AJ R i ⟨(m:Int),t,f,u,d,s⟩ (by omega)] at N;obtain⟨Kg,Ke,Eq⟩:=yq1 ((kjb y (Bk.cells ⟨(m:Int),t,f,u,d,s⟩) (i*6) Y ⟨z,0,none⟩ (λT _=>absurd T.symm J)).trans Kf.out) (jV Kd.out (λT=>K T.symm) (i*6) (Bk.cells ⟨(m:Int),t,f,u,d,s⟩)) (bt Ki (Bk.cells ⟨(m:Int),t,f,u,d,s⟩) (o:=i*6) Z.out);have q:=cY (g:=y) (Bk.cells ⟨(m:Int),t,f,u,d,s⟩) Y (i*6);obtain⟨cs,V⟩:∃cs:Array Value,#[.int .i64 (m:Int),.int .i64 t,.int .i64 f,.int .i64 u,.bool d,.int .u64 (s:Int)]=cs:=⟨_,rfl⟩;obtain⟨w3,X⟩:∃w3,Y.setCells y (i*6) (Bk.cells ⟨(m:Int),t,f,u,d,s⟩)=w3:=⟨_,rfl⟩;have Ks:Y.setCells y (i*6) cs.toList=w3:=by rw[<-V];exact X
   rw[X] at N Kg Ke Eq q;rw[V] at h Kj Kh;clear X;go_wp2_with (refine kjr rfl _ _ _ rfl y (i*6) cs (by rfl) (by rw[<-V];rfl) h Kj Kh ?_;rw[Ks]);go_roundw;exact⟨i+1,j+1,R.set i ⟨(m:Int),t,f,u,d,s⟩,by go_num,by go_num,HY.out,N.out,Kg.out,Rd.more Ke.out (by rw[q];exact kqa _),by rw[q];omega,Eq.out⟩;simp[intOf];omega
  have HY:=y5 (v.out rfl);go_wp2;go_roundw;exact⟨i,j+1,R,rfl,by go_num,HY.out,L.out,Kf.out,Kd.out,by omega,Z.out⟩;simp[intOf];omega
 obtain⟨s1,s2,s3,s4,-⟩:=W;obtain⟨A9,c9,e9,hle,x⟩:=kI a;cases e9;have HRD:=y5 x;have hicl:(i:Int)<=(C:Int):=(by omega);have hill:(i:Int)<=(l.length:Int):=(by omega);have Kp:(0:Int)<=(i:Int):=(by omega);have hne:i≠C:=(by omega);have hnec:¬ ((i:Int)=(C:Int)):=(by omega);have Y:j=l.length:=(by omega);have V:=y5 (show lD S l=R.take i by rw[s4,Y,kzb]);have Z:=a.1;obtain⟨L,N⟩:=xq ((Builtin.zeroCells (Value.cells (.agg #[.int .i64 0,.int .i64 0,.int .i64 0,.int .i64 0,.bool false,.int .u64 0])) (l.length-i)).toList);have e:L.length=(l.length-i)*6:=by rw[<-N,lC];rfl
 have h:=jC a (i*6) L.length (by rw[e];omega);have hcl:=kp (P:=prog) wr 48 55 0 _ underlying48 Bl L y (i*6) (l.length-i) (C-i) N (by omega)
  (λv b=>by
   rw[<-N] at b;have:=kP b (by decide);simp[Value.cells] at this;rcases this with rfl|rfl|rfl<;>rfl)
  (λq r=>(h q r).1) (λq r=>(h q r).2)
 obtain⟨X,Q,v⟩:=yq1 ((kjb y L (i*6) wr ⟨z,0,none⟩ (λT _=>absurd T.symm J)).trans F) (jV I (λT=>K T.symm) (i*6) L) (bt Ki L (o:=i*6) U);have b:=cY (g:=y) L wr (i*6);have O:Hid (Rd (wr.setCells y (i*6) L) wr.heap.size (some ⟨y,0,none⟩) ((R.take i).flatMap Bk.cells)):=y5 λ_=>by
  refine⟨y,0,rfl,(a.lt y rfl).2,λq r=>?_⟩;have hq6:q<i*6:=by have:=r;rw[ia Bk.cells 6 Bk.len,kq6] at this;omega
  rw[kjb y L (i*6) wr _ (λ_ _=>.inl (by show 0+q<i*6;omega))];have T:=a.cellAt q (by omega);rw[kxg,T];have r:q<(R.flatMap Bk.cells).length:=(by rw[Z];omega);rw[kqg r];congr 1;simp only[ia Bk.cells 6 Bk.len,kjx]
 have Kk:(R.take i).length=i:=(by rw[kq6];omega);clear x N e h a F I U;go_wp2;go_ret;rw[V.out,Kk];exact⟨some ⟨y,0,none⟩,C,rfl,Rd.more O.out (by rw[b];exact kqa _),X.out,Rd.more Q.out (by rw[b];exact kqa _),by rw[b];have:=B.out.1;omega,v.out⟩
def tp (G:List Nat) (S:List Bool) (b:Bk):En:=⟨b.at_,gz (wd G b.at_.toNat) (S[b.at_.toNat]?.getD false)⟩
noncomputable def aO (G:List Nat):List En:=if aK G=0 then (lD (seenL G) (aa G)).map (tp G (seenL G)) else []
theorem vr(b:aK G=r)(a:r≠0):aO G=[]:=by unfold aO;rw[if_neg (by rw[b];exact a)]
theorem mR(S:List Bool)(l:List Bk):(lD S l).length<=l.length:=kxz _ _
theorem qk{b:Bk}(h:b∈lD S l):b∈l:=(kzy.1 h).1
theorem zX(G:List Nat)(S:List Bool)(l:List Bk)(a:k<l.length):(l.take (k+1)).map (tp G S)=(l.take k).map (tp G S)++[tp G S l[k]]:=by rw[kqi a,kjf];rfl
theorem hp_ats(h:ao G=0):∀k (b:k<(aa G).length),∃m:Nat,(aa G)[k].at_=(m:Int)/\m<G.length:=by intro k b;obtain⟨hs,l,e,ha,a⟩:=ax h;subst a;obtain⟨a,c,-,-,d,-⟩:=bN _ _ e (by omega) k b;exact⟨a,by rw[c];rfl,d⟩
theorem xx(A:Option Addr)(G:List Nat)(c n:Nat)(w:World)(d:G.length=n)(hm:n<=9223372036854775807)(hr:RdW w w.heap.size A G)(a:∀x∈G,x<2^64):
 Calls prog 141 #[.slice A n c] w λe b=>ey w.heap.size (aK G) (aO G) e b/\Below w.heap.size w b:=by
 subst d;obtain⟨HR,T⟩:=yq0 hr (DY A G c G.length w rfl hm hr a);unfold CJ at T;have HO:=y5 a;clear hr a;by_cases M:ao G=0
 .obtain ⟨l,hl⟩:∃l,aa G=l:=⟨_,rfl⟩;have E:=y5 (λL b W (h:RdW W W.heap.size A G) (d:RdB W W.heap.size L l)=>D6 A L G c b G.length l W rfl hm M hl h d HO.out);unfold RcRes at E;have z:=hp_ats M;have Kt:=dI G;rw[M,hl] at T;rw[hl] at z Kt;have z:=y5 z;have Q:=dA G (ax M).1;have hlen:=Q.2.1;have hlen1:=Q.1;by_cases hz:aK G=0
  .have HV:=y5 (show aK G=0/\aO G=(lD (seenL G) l).map (tp G (seenL G)) from ⟨hz,by unfold aO;rw[if_pos hz,hl]⟩);have Kd:=Dl G;obtain⟨i0,f,a,Ke,Kf⟩:=kzh bE;obtain⟨HI,Kp,Kq,Kr⟩:=yq2 f a Ke Kf;clear f a Ke Kf;clear M hl Q hz;generalize seenL G=S at E HV Kd;obtain⟨Kh,P,Km⟩:=yq1 (λ(N:Option Addr) (b L g K H:Nat) (W:World) a d f i j h6 h7=>un N l S L g K G.length b H W Kd (by omega) z.out a d f i j h6 h7) Kd (λa m W=>pR (wd G a) m W (fH HO.out a));go_enter func141,ntmps141;go_wp2_with fail;refine T.out.mono ?_;rintro e w1 ⟨⟨N,c1,rfl,a⟩,f⟩;have r:=y5 f;have D:=yq9 HR f;have s:=y5 a;clear a f;go_wp2_with fail;refine (E.out N _ w1 D.out (show RdB _ _ _ _ from Rd.of_own s.out)).mono ?_;rintro e Z ⟨⟨-,g,K,rfl,o⟩|⟨h9,-⟩,q⟩
   .have C:=yq7 r q;have I:=yq9 D q;obtain⟨v,HS⟩:=yq0 (ag s.out q (kqa _)) o;have hgE:=o.lt g rfl;have d:=gR v.out o (by decide);have b:=s.out.lt;have Ke:=r.out.size;have Kf:=q.size;have Kv:=C.out.size;have h6:(Value.slice N l.length c1).ownBlock≠some Z.heap.size:=λh=>by
     have:=(b _ h).2;omega
    have h7:(Value.slice N l.length c1).ownBlock≠some g:=λh=>by
     rcases d with i|i
     .rw[h] at i;cases i
     exact i h
    clear o q d b;obtain⟨X,y,F,J,b⟩:=yq3 (Bx.new Z 114 #[.slice (some ⟨g,0,none⟩) G.length K]) (v.out.alloc (.cells #[.slice (some ⟨g,0,none⟩) G.length K] 114)) ((Rd.of_own HS.out).alloc (kqa _) (.cells #[.slice (some ⟨g,0,none⟩) G.length K] 114)) (I.out.alloc (kqa _) (.cells #[.slice (some ⟨g,0,none⟩) G.length K] 114)) (C.out.alloc Kv (.cells #[.slice (some ⟨g,0,none⟩) G.length K] 114));go_wp2_with fail;obtain⟨wX,d⟩:∃wX,Z.alloc (.cells #[.slice (some ⟨g,0,none⟩) G.length K] 114)=wX:=⟨_,rfl⟩;have U:wX.heap.size=Z.heap.size+1:=by rw[<-d];simp
    rw[d] at X y F J b |-;clear d;have h:=y5 (Rd.more F.out (show Z.heap.size<=wX.heap.size by omega));refine (Kh.out N c1 Z.heap.size g K w.heap.size wX y.out b.out.size (by omega) X.out.c1.1 h.out h6 h7).mono ?_;rintro e w3 ⟨A3,c3,rfl,t,i,u,Y,O⟩;have B:=y5 (b.out.trans O);obtain⟨Kn,V,R,Ko⟩:=yq2 (yq8 HR B) t i u;obtain⟨L,H⟩:=xq Z.heap.size;rw[H] at R Y;have Ku:=mR S l;have Ki:Hid (∀k (hk:k<(lD S l).length),∃m:Nat,(lD S l)[k].at_=(m:Int)/\m<G.length):=y5 (λk hk=>by
     obtain⟨j,d,e⟩:=kqy (qk (kqp hk));rw[<-e];exact z.out j d)
    have Kj:=y5 (λk (hk:k<(lD S l).length)=>zX G S (lD S l) hk);obtain⟨d,j⟩:=xq (lD S l);rw[j] at V Ki Kj Ku HV;simp only[j,H];clear j t i u O X y F J b h h6 h7 U H E Kh T v s HS D I;go_wp2_with fail;go_loopw [7,34] (λv i wr=>∃k:Nat,k<=d.length/\i=.int .i64 k/\wr.ownsRow w3.heap.size 89 2 v (d.take k).length (((d.take k).map (tp G S)).flatMap En.cells)/\Below w3.heap.size w3 wr) (λ_ i _=>d.length-(intOf i).toNat)
    case atStart=>exact⟨0,kqv _,rfl,kq3 _ _ _ _,kqe _ _⟩
    obtain⟨k,hk,rfl,h,hB⟩:=hrel;have hz:=hB.size;by_cases Kc:k<d.length
    .obtain ⟨b,off,rfl,hbw,U,X,q2,q3,q4,q5⟩:=RdB.at_ (Rd.below V.out hB) Kc;obtain⟨m,i,I⟩:=Ki.out k Kc;have j:=y5 (Kj.out k Kc);obtain⟨x,hx⟩:=xq (d[k]);rw[hx] at U X q2 q3 q4 q5 i j;obtain⟨xa,xs,xk,xt,xm,xn⟩:=x;dsimp only at U X q2 q3 q4 q5 i;subst i;have H:tp G S ⟨(m:Int),xs,xk,xt,xm,xn⟩=⟨(m:Int),gz (wd G m) (S[m]?.getD false)⟩:=by unfold tp;dsimp only;rw[kqf]
     rw[H] at j;obtain⟨bW,oW,rfl,hbW,x0⟩:=RdW.at_ (Rd.below Kn.out hB) I;rw[<-bY] at x0;obtain⟨bS,oS,eA,hbS,J⟩:=Rd.at_flat gG (Rd.below Ko.out hB) (by omega) (show m<S.length by rw[P.out];exact I);cases eA;have J:=J 0 (by omega);have J:wr.cell? ⟨g,m,none⟩=some (.bool (S[m]'(by rw[P.out];exact I))):=by simpa [bg] using J
     have t:S[m]'(by rw[P.out];exact I)=S[m]?.getD false:=by rw[kqg (by rw[P.out];exact I)];rfl
     rw[t] at J;have HQ:=y5 (λW=>Km.out m (S[m]?.getD false) W);obtain⟨y,hy⟩:=xq (S[m]?.getD false);rw[hy] at J j HQ;obtain⟨u,W⟩:=xq (wd G m);rw[W] at x0 j HQ;obtain⟨v,hv⟩:=xq (gz u y);obtain⟨er,i⟩:=xq (oO u y);rw[hv] at j HQ;rw[i] at HQ;have z0:=(hB.cell (p:=⟨L,0,none⟩) Y).trans R.out;have hlm:(k:Int)<(d.length:Int):=(by omega);have hmi:(m:Int)<(G.length:Int):=(by omega);have hm0:(0:Int)<=(m:Int):=(by omega);have hk0:(0:Int)<=(k:Int):=(by omega);obtain⟨O,BN,Eq,Kb,Ka,F⟩:=yq4 (hB.alloc hz (.cells #[.int .i64 (m:Int),.int .i64 xs,.int .i64 xk,.int .i64 xt,.bool xm,.int .u64 (xn:Int)] 55)) (Bx.new wr 55 #[.int .i64 (m:Int),.int .i64 xs,.int .i64 xk,.int .i64 xt,.bool xm,.int .u64 (xn:Int)]) (h.alloc (.cells #[.int .i64 (m:Int),.int .i64 xs,.int .i64 xk,.int .i64 xt,.bool xm,.int .u64 (xn:Int)] 55)) ((kzc wr (.cells #[.int .i64 (m:Int),.int .i64 xs,.int .i64 xk,.int .i64 xt,.bool xm,.int .u64 (xn:Int)] 55) ⟨bW,oW+m,none⟩ (by show bW<wr.heap.size;omega)).trans x0) ((kzc wr (.cells #[.int .i64 (m:Int),.int .i64 xs,.int .i64 xk,.int .i64 xt,.bool xm,.int .u64 (xn:Int)] 55) ⟨g,m,none⟩ (by show g<wr.heap.size;omega)).trans J) ((kzc wr (.cells #[.int .i64 (m:Int),.int .i64 xs,.int .i64 xk,.int .i64 xt,.bool xm,.int .u64 (xn:Int)] 55) ⟨L,0,none⟩ (by show L<wr.heap.size;omega)).trans z0);clear hx H t hy W hv i x0 J z0 h;go_upto_region 12 with (fail);obtain⟨wn,i⟩:∃wn,wr.alloc (.cells #[.int .i64 (m:Int),.int .i64 xs,.int .i64 xk,.int .i64 xt,.bool xm,.int .u64 (xn:Int)] 55)=wn:=⟨_,rfl⟩;rw[i] at O BN Eq Kb Ka F |-;have hszn:wn.heap.size=wr.heap.size+1:=by rw[<-i];simp
     clear i U X q2 q3 q4 q5;obtain⟨p0,p1,p2,p3,p4,p5,pf,Ks⟩:=BN.out.c6;have x0:=Kb.out;have J:=Ka.out;have z0:=F.out;have gW:bW<wn.heap.size:=(by omega);have gS:g<wn.heap.size:=(by omega);have gZ:L<wn.heap.size:=(by omega);go_region_held3 (λX:World=>X.cell? ⟨bW,oW+m,none⟩=some (.int .u64 (u:Int))/\X.cell? ⟨L,0,none⟩=some (.slice (some ⟨g,0,none⟩) G.length K)/\X.cell? ⟨g,m,none⟩=some (.bool y)/\X.cell? ⟨wr.heap.size,0,none⟩=some (.int .i64 (m:Int))) (go_keep)
      (first | (go_at_call 205;refine (HQ.out _).mono ?_;rintro e U ⟨rfl,t⟩;have m0:=(t.cell (p:=⟨bW,oW+m,none⟩) gW).trans x0;have m1:=(t.cell (p:=⟨L,0,none⟩) gZ).trans z0;have m2:=(t.cell (p:=⟨g,m,none⟩) gS).trans J;have m3:=(t.cell (p:=⟨wr.heap.size,0,none⟩) Ks).trans p0))
     have X:Below wn.heap.size wn U:=(kqe _ _).drew.trans t;have i:=ag Eq.out X (kqa _);have H:=O.out.trans (X.mono O.out.size);have hz5:=H.size;have Kk:(d.take k).length=k:=(by rw[kq6];omega);have W:(d.take (k+1)).length=k+1:=(by rw[kq6];omega);rw[Kk] at i;obtain⟨Kl,U,Kg⟩:=yq1 W i H;clear x0 J z0 p0 p1 p2 p4 p5 pf m0 m1 m2 t X Kk W i H Eq O BN Kb Ka F;go_wp2_with (at_builtin;refine kq7 _ rfl _ _ 26 rfl w3.heap.size 89 i0 _ 2 16 underlying26 HI.out Kp.out Kq.out Kr.out rfl (by decide) _ _ _ rfl (U.out.alloc _) ⟨_,0,none⟩ 1 1 [.int .i64 (m:Int),.int .u64 (v:Int)] rfl rfl (bc _ _ _) (by simp[Value.oneCell']) (by unfold maxLen;omega) (by omega) (by simp;omega) ?_;intro v1 w6 a F _;have i:=ay Kg.out (by omega) U.out F);go_roundw;exact⟨k+1,by omega,by go_num,by rw[j.out,Kl.out,ce];exact a,i⟩;simp[intOf];omega
    rw[kza (by omega)] at h;have b:wr.ownsRow w3.heap.size 89 2 u7 (aO G).length ((aO G).flatMap En.cells):=by rw[HV.out.2,kzw];exact h
    obtain⟨j,t,rfl⟩:=aw b;have i:=y5 (ab b B.out.size);clear h b;go_wp2;go_ret2;exact⟨⟨j,t,by rw[HV.out.1];rfl,i.out⟩,B.out.trans (hB.mono B.out.size)⟩
   exfalso;rw[HV.out.1] at h9;exact absurd h9 (by decide)
  have b:=y5 hz;clear M hl Q hz;go_enter func141,ntmps141;go_wp2_with fail;refine T.out.mono ?_;rintro e w1 ⟨⟨N,c1,rfl,a⟩,f⟩;have r:=y5 f;have D:=yq9 HR f;have s:=y5 a;clear a f;go_wp2_with fail;refine (E.out N _ w1 D.out (show RdB _ _ _ _ from Rd.of_own s.out)).mono ?_;rintro e Z ⟨⟨h9,-⟩|⟨h9,rfl⟩,q⟩
  .exact absurd h9 b.out
  have C:=yq7 r q;have a:=y5 h9;clear h9;go_wp2;go_ret2;exact⟨bZ a.out (vr a.out (by decide)),C.out.alloc C.out.size _⟩
 have b:=y5 (And.intro (ze M) M);obtain⟨r,hr⟩:=xq (ao G);rw[hr] at T b;have hn1:(r != 0)=true:=by rw[kqx,<-hr];exact M
 obtain⟨q,a⟩:=xq ((aa G).length);rw[a] at T;clear M hr a;go_enter func141,ntmps141;go_wp2_with fail;refine T.out.mono ?_;rintro e w1 ⟨⟨N,c1,rfl,-⟩,f⟩;go_wp2;go_ret2;exact⟨bZ b.out.1 (vr b.out.1 b.out.2),f⟩
end Go.Proofs.YtpcajamacpbjcaaGreat
