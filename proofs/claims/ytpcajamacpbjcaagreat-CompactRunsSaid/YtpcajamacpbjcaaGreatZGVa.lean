import Derived.Test.YtpcajamacpbjcaaGreatZKCp1
set_option maxHeartbeats 16000000
set_option maxRecDepth 100000
set_option linter.all false
namespace Go.Proofs.YtpcajamacpbjcaaGreat
open Go.RowKit
variable {s:Int}{l:List Bk}{F:List Bool}{G:List Nat}{a i k n:Nat}
open Go.Proofs.Tryz
def sF (b:Bk):Value:=.agg #[.int .i64 b.at_,.int .i64 b.size,.int .i64 b.kind,.int .i64 b.typ,.bool b.mark,.int .u64 (b.next:Int)]
theorem pZ(x:Bk)(w:World):Calls prog 247 #[sF x] w λe a=>e=.returned (.bool (aE x))/\Below w.heap.size w a:=by
 obtain⟨e,h,c,i,f,g⟩:=x;unfold aE sF;dsimp only;have d:=y5 ((kqe w.heap.size w).alloc (kqa _) (.cells #[.int .i64 e,.int .i64 h,.int .i64 c,.int .i64 i,.bool f,.int .u64 (g:Int)] 55));by_cases a:c=1
 .subst a;go_enter func247,ntmps247;go_wp2;go_ret;exact⟨by simp,d.out⟩
 have b:(c==1)=false:=by rw[kqc];exact a
 clear a;go_enter func247,ntmps247;go_wp2;go_ret;exact⟨by rw[b];rfl,d.out⟩
theorem zY(A:Option Addr)(l:List Bk)(c n:Nat)(s:Int)(w:World)(g:l.length=n)(hm:n<=2048)(a:∀k,k<=l.length->0<=aN (l.take k) s/\aN (l.take k) s<=4096)(b:RdB w w.heap.size A l):
 Calls prog 243 #[.slice A n c,.int .i64 s] w λe f=>(∃B d,e=.returned (.tuple #[.slice B n d,.int .i64 (aN l s)])/\f.ownsRow w.heap.size 3 1 (.slice B n d) n ((aQ l s).flatMap aV))/\Below w.heap.size w f:=by
 subst g;obtain⟨HR,G⟩:=yq0 b a;have O:Hid (∀k (h:k<l.length),aN (l.take (k+1)) s=if aE l[k] then aN (l.take k) s+l[k].size else aN (l.take k) s):=y5 λk h=>gN h s;have P:Hid (∀k (h:k<l.length),(aQ (l.take (k+1)) s).flatMap aV=(aQ (l.take k) s).flatMap aV++[.int .i64 (if aE l[k] then aN (l.take k) s else 0)]):=y5 λk h=>by
  rw[iV h s,kzv];rfl
 clear b a;obtain⟨Y,f,a,b,m⟩:=kzh nH;obtain⟨W,I,J,K⟩:=yq2 f a b m;clear f a b m;go_enter func243,ntmps243;go_wp2_with fail;go_loopw [1,6,7] (λf b a wr=>∃k:Nat,k<=l.length/\a=.int .i64 k/\f=.int .i64 (aN (l.take k) s)/\wr.ownsRow w.heap.size 3 1 b k ((aQ (l.take k) s).flatMap aV)/\Below w.heap.size w wr) (λ_ _ i _=>l.length-(intOf i).toNat)
 case atStart=>exact⟨0,kqv _,rfl,rfl,kq3 _ _ _ _,kqe _ _⟩
 obtain⟨k,hk,rfl,rfl,h,F⟩:=hrel;have X:=F.size;by_cases z:k<l.length
 .obtain ⟨b,E,rfl,S,Z,M,q2,q3,q4,q5⟩:=RdB.at_ (Rd.below HR.out F) z;have a:=O.out k z;have g:=P.out k z;obtain⟨b1,b2⟩:=G.out k hk;obtain⟨Q,R⟩:=G.out (k+1) z;obtain⟨x,U⟩:=xq (l[k]);rw[U] at Z M q2 q3 q4 q5 a g;obtain⟨u,T⟩:=xq (aN (l.take k) s);rw[T] at a g b1 b2 |-;have j:=y5 (pZ x wr);unfold sF at j;have hk0:(0:Int)<=(k:Int):=(by omega);have hk1:(k:Int)<(l.length:Int):=(by omega);obtain⟨H,N⟩:=yq0 h F;obtain⟨xa,V,xk,xt,xm,xn⟩:=x;dsimp only at Z M q2 q3 q4 q5 a j;cases C:aE ⟨xa,V,xk,xt,xm,xn⟩
  .rw[C] at j a g;simp only[kzp,if_false] at a g;obtain⟨q,t⟩:=yq0 a g;clear a g C U T h F Q R;go_wp2_with fail;refine j.out.mono ?_;rintro e w2 ⟨rfl,i⟩;obtain⟨r,o⟩:=yq0 (ag H.out i (kqa _)) (N.out.trans (i.mono X));have m:=o.out.size;clear i;go_wp2_with (at_builtin;refine kq7 _ rfl _ _ 42 rfl w.heap.size 3 Y _ 1 8 underlying42 W.out I.out J.out K.out rfl (by decide) _ _ _ rfl (r.out.alloc _) ⟨_,0,none⟩ 1 1 [.int .i64 0] rfl rfl (bc _ _ _) (by simp[Value.oneCell']) (by unfold maxLen;omega) (by omega) (by simp;omega) ?_;intro v1 w3 f v _;have y:=y5 (ay o.out m r.out v);have D:=y5 f;clear f v);go_roundw;exact⟨k+1,by omega,by go_num,by rw[q.out],by rw[t.out];exact D.out,y.out⟩;simp[intOf];omega
  rw[C] at j a g;simp only[if_true] at a g;rw[a] at Q R;obtain⟨q,t⟩:=yq0 a g;have hw:IntKind.i64.wrap (u+V)=u+V:=kqo _ (by omega);have L:=S;clear a g C U T h F Q R;go_wp2_with fail;refine j.out.mono ?_;rintro e w2 ⟨rfl,i⟩;obtain⟨r,o⟩:=yq0 (ag H.out i (kqa _)) (N.out.trans (i.mono X));have m:=o.out.size;have HQ1:=y5 ((i.cell (p:=⟨b,E+k*6+1,none⟩) (show b<wr.heap.size by omega)).trans M);clear i;go_wp2_with (at_builtin;refine kq7 _ rfl _ _ 42 rfl w.heap.size 3 Y _ 1 8 underlying42 W.out I.out J.out K.out rfl (by decide) _ _ _ rfl (r.out.alloc _) ⟨_,0,none⟩ 1 1 [.int .i64 u] rfl rfl (bc _ _ _) (by simp[Value.oneCell']) (by unfold maxLen;omega) (by omega) (by simp;omega) ?_;intro v1 w3 f v _;have y:=y5 (ay o.out m r.out v);have D:=y5 f;have p1:=(y.out.cell (p:=⟨b,E+k*6+1,none⟩) L).trans ((N.out.cell (p:=⟨b,E+k*6+1,none⟩) L).symm.trans M);clear f v);go_roundw;exact⟨k+1,by omega,by go_num,by rw[q.out],by rw[t.out];exact D.out,y.out⟩;simp[intOf];omega
 obtain rfl:k=l.length:=(by omega);rw[kzb] at h |-;obtain⟨a,b,rfl⟩:=aw h;go_wp2;go_ret2;exact⟨⟨a,b,rfl,h⟩,F⟩
theorem Gg(A:Option Addr)(l:List (Int × Int))(c n:Nat)(a:Int)(w:World)(b:l.length=n)(hm:n<=1000000)(d:RdM w w.heap.size A l):
 Calls prog 278 #[.slice A n c,.int .i64 a] w λe f=>e=.returned (.tuple #[.int .i64 ((gq l a).getD 0),.bool (gq l a).isSome])/\Below w.heap.size w f:=by
 subst b;have t:=y5 d;have o:Hid (∀k (h:k<l.length),yq l a k->l[k].1=a->gq l a=some l[k].2):=y5 λk h b e=>zM h b e;have p:Hid (yq l a l.length->gq l a=none):=y5 uO;obtain⟨q,b⟩:=xq (gq l a);rw[b] at o p |-;clear d b;go_enter func278,ntmps278;go_wp2_with fail;go_loopw [6] (λi wr=>∃k:Nat,k<=l.length/\i=.int .i64 k/\Hid (yq l a k)/\Below w.heap.size w wr) (λi _=>l.length-(intOf i).toNat)
 case atStart=>exact⟨0,kqv _,rfl,rfl,kqe _ _⟩
 obtain⟨k,hk,rfl,m,i⟩:=hrel;by_cases f:k<l.length
 .obtain ⟨b,off,rfl,hb,r,s⟩:=RdM.at_ (Rd.below t.out i) f;obtain⟨j,e⟩:=yq0 (λh=>rR f m.out h) (λh=>o.out k f m.out h);obtain⟨x,d⟩:=xq (l[k]);rw[d] at r s j e;obtain⟨h,x2⟩:=x;dsimp only at r s j e;have hk1:(k:Int)<(l.length:Int):=(by omega);have hk0:(0:Int)<=(k:Int):=(by omega);clear d;by_cases d:h=a
  .have u:(h==a)=true:=by rw[kqw];exact d
   have g:=y5 (e.out d);clear d;go_wp2;go_ret2;exact⟨by rw[g.out];rfl,i⟩
  have u:(h==a)=false:=by rw[kqc];exact d
  have g:=y5 (j.out d);clear d;go_wp2;go_roundw;exact⟨k+1,by omega,by go_num,g.out,i⟩;simp[intOf];omega
 have g:=y5 (p.out (by have:=m.out;rwa [show k=l.length by omega] at this));go_wp2;go_ret2;exact⟨by rw[g.out];rfl,i⟩
def zg (l:List Bk) (a:Int):Int:=match l.findIdx? (λb=>b.at_==a&&b.kind==1) with
 | some k=>(k:Int)
 | none => -1
theorem z6{a:Int}(d:k<l.length)(h:ky l a k)(b:(l[k].at_==a&&l[k].kind==1)=true):zg l a=(k:Int):=by unfold zg;rw[kk6.2 ⟨d,b,λj c=>by have:=h j c;rw[bG l j (by omega)] at this;rw[this];simp⟩]
theorem zE{a:Int}(h:ky l a l.length):zg l a = -1:=by
 unfold zg;rw[List.findIdx?_eq_none_iff.2 λb c=>by
  obtain⟨j,b,rfl⟩:=kqy c;have:=h j b;rw[bG l j b] at this;exact this]
theorem Gx(A:Option Addr)(l:List Bk)(c n:Nat)(a:Int)(w:World)(b:l.length=n)(hm:n<=1000000)(f:RdB w w.heap.size A l):
 Calls prog 276 #[.slice A n c,.int .i64 a] w λe d=>e=.returned (.int .i64 (zg l a))/\Below w.heap.size w d:=by
 subst b;have C:=y5 f;have u:Hid (∀k (h:k<l.length),ky l a k->(l[k].at_==a&&l[k].kind==1)=true->zg l a=(k:Int)):=y5 λk h b d=>z6 h b d;have o:Hid (∀k (h:k<l.length),ky l a k->(l[k].at_==a&&l[k].kind==1)=false->ky l a (k+1)):=y5 λk h b d=>pT b (by rw[bG l k h];exact d);have v:Hid (ky l a l.length->zg l a = -1):=y5 zE;obtain⟨q,b⟩:=xq (zg l a);rw[b] at u v |-;have B:=y5 (pC l a);clear f b;go_enter func276,ntmps276;go_wp2_with fail;go_loopw [5] (λi wr=>∃k:Nat,k<=l.length/\i=.int .i64 k/\Hid (ky l a k)/\Below w.heap.size w wr) (λi _=>l.length-(intOf i).toNat)
 case atStart=>exact⟨0,kqv _,rfl,B,kqe _ _⟩
 obtain⟨k,hk,rfl,p,j⟩:=hrel;by_cases i:k<l.length
 .obtain ⟨b,off,rfl,hb,y,p1,z,p3,p4,p5⟩:=RdB.at_ (Rd.below C.out j) i;obtain⟨m,f⟩:=yq0 (λh=>o.out k i p.out h) (λh=>u.out k i p.out h);obtain⟨x,d⟩:=xq (l[k]);rw[d] at y z m f;obtain⟨s,xs,t,xt,xm,xn⟩:=x;dsimp only at y z m f;have hk1:(k:Int)<(l.length:Int):=(by omega);have hk0:(0:Int)<=(k:Int):=(by omega);clear d;by_cases d:s=a
  .have h:(s==a)=true:=by rw[kqw];exact d
   by_cases e:t=1
   .have r:(t==1)=true:=by rw[kqw];exact e
    have g:=y5 (f.out (by rw[h,r];rfl));clear d e;go_wp2;go_ret;exact⟨by rw[g.out];rfl,j⟩
   have r:(t==1)=false:=by rw[kqc];exact e
   have g:=y5 (m.out (by rw[h,r];rfl));clear d e;go_wp2;go_roundw;exact⟨k+1,by omega,by go_num,g,j⟩;simp[intOf];omega
  have h:(s==a)=false:=by rw[kqc];exact d
  have g:=y5 (m.out (by rw[h];rfl));clear d;go_wp2;go_roundw;exact⟨k+1,by omega,by go_num,g,j⟩;simp[intOf];omega
 have g:=y5 (v.out (by have:=p.out;rwa [show k=l.length by omega] at this));go_wp2;go_ret;exact⟨by rw[g.out];rfl,j⟩
theorem v7(A:Option Addr)(G:List Nat)(c n t:Nat)(d xs f:Int)(g:Bool)(i:Nat)(w:World)(s:G.length=n)(z:n<=1000000)(q:256<=n)(v:t<8)(h:b8 (wd G (96+2*t)) (wd G (96+2*t+1))=true)(o:xs=((bp (cG (wd G (96+2*t))).length:Nat):Int))(b:RdW w w.heap.size A G)(u:∀x∈G,x<2^64):
 Calls prog 275 #[.slice A n c,.agg #[.int .i64 d,.int .i64 xs,.int .i64 f,.int .i64 (t:Int),.bool g,.int .u64 (i:Int)]] w λe a=>e=.returned (.bool true)/\Below w.heap.size w a:=by
 have p:=y5 (λW (b:RdW W W.heap.size A G)=>nA A G c n t W s z q v h b u);have m:(cG (wd G (96+2*t))).length<=8:=by rw[dp];exact (fW h).1
 obtain⟨l,r⟩:=xq (cG (wd G (96+2*t)));rw[r] at p m o;have HR:=y5 b;have w1:IntKind.i64.wrap (2+(l.length:Int))=2+(l.length:Int):=kqo _ (by omega);have w2:IntKind.i64.wrap (2+(l.length:Int)+(l.length:Int)%2)=2+(l.length:Int)+(l.length:Int)%2:=kqo _ (by omega);have he:((xs:Int)==2+(l.length:Int)+(l.length:Int)%2)=true:=by rw[kqw,o];unfold bp;omega
 have y:=Bx.new w 55 #[.int .i64 d,.int .i64 xs,.int .i64 f,.int .i64 (t:Int),.bool g,.int .u64 (i:Int)];obtain⟨j,a,k⟩:=yq1 ((b.alloc (kqa _) (.cells #[.int .i64 d,.int .i64 xs,.int .i64 f,.int .i64 (t:Int),.bool g,.int .u64 (i:Int)] 55)).more (show w.heap.size<=(w.alloc (.cells #[.int .i64 d,.int .i64 xs,.int .i64 f,.int .i64 (t:Int),.bool g,.int .u64 (i:Int)] 55)).heap.size by simp)) ((kqe w.heap.size w).alloc (kqa _) (.cells #[.int .i64 d,.int .i64 xs,.int .i64 f,.int .i64 (t:Int),.bool g,.int .u64 (i:Int)] 55)) y;clear b u h o r s q v y;go_enter func275,ntmps275;go_wp2_with fail;obtain⟨o,b⟩:∃o,w.alloc (.cells #[.int .i64 d,.int .i64 xs,.int .i64 f,.int .i64 (t:Int),.bool g,.int .u64 (i:Int)] 55)=o:=⟨_,rfl⟩;rw[b] at j a k |-;clear b;refine (p.out _ j.out).mono ?_;rintro e w5 ⟨⟨A1,c1,rfl,-⟩,b⟩;have q:=k.out.up b k.out.lt;obtain⟨p0,p1,p2,p3,p4,p5,pf,hgn⟩:=q.c6;have h:=yq7 a b;clear b q;go_wp2;go_ret;exact⟨rfl,h.out⟩
theorem sA(A:Option Addr)(G:List Nat)(c n a:Nat)(l:List Bk)(w:World)(h:G.length=n)(i:am (G.length:Int)=true)(H:a%2=0)(v:a<=n)(m:blocks G a=some l)(hl2:l.length<=1024)(d:∀b∈l,dQ G b=true)(g:RdW w w.heap.size A G)(r:∀x∈G,x<2^64):
 Calls prog 241 #[.slice A n c,.int .i64 (a:Int)] w λe f=>(∃A c,e=.returned (.tuple #[.slice A l.length c,.bool true])/\RdB f f.heap.size A l/\l.length<=c)/\Below w.heap.size w f:=by
 subst h;have u:=dA G i;have s:=i;have p:=y5 (mJ A G c G.length a w rfl (by omega) (by omega) v H g r);unfold tP nB at p;rw[m] at p;simp only[kq9,kxv] at p;have Q:=y5 (λk (y:k<l.length) (h1:l[k].kind=1)=>by
  have h:=gK (G:=G) m H y h1;have f:dQ G l[k]=true:=d _ (kqp y);rw[iC h1] at f;simp only[kqs,kqw] at f;obtain⟨t,o⟩:=kqz h.1;have e:tyA l[k]=96+2*t:=by unfold tyA;rw[o];simp
  rw[e] at f;have j:bB (wd G (96+2*t)) (wd G (96+2*t+1))=cG (wd G (96+2*t)):=by unfold bB;rw[if_pos f.1]
  rw[j] at f;exact (show ∃t:Nat,l[k].typ=(t:Int)/\t<8/\b8 (wd G (96+2*t)) (wd G (96+2*t+1))=true/\l[k].size=((bp (cG (wd G (96+2*t))).length:Nat):Int) from ⟨t,o,by omega,f.1,f.2⟩))
 obtain⟨j,S⟩:=yq0 (λt B E q C D W o h i (g:RdW W W.heap.size A G)=>v7 A G c G.length t B E q C D W rfl (by omega) (by omega) o h i g r) g;clear g r m d s i u;go_enter func241,ntmps241;go_wp2_with fail;refine p.out.mono ?_;rintro e O ⟨⟨P,T,rfl,g,f⟩,d⟩;obtain⟨m,s,h⟩:=yq1 g f d;have u:=yq9 S d;clear g f d;go_wp2_with fail;go_loopw [8] (λi wr=>∃k:Nat,k<=l.length/\i=.int .i64 k/\Below O.heap.size O wr) (λi _=>l.length-(intOf i).toNat)
 case atStart=>exact⟨0,kqv _,rfl,kqe _ _⟩
 obtain⟨k,y,rfl,f⟩:=hrel;have z:=f.size;by_cases o:k<l.length
 .obtain ⟨b,off,rfl,hbw,I,J,K,L,M,N⟩:=RdB.at_ (Rd.below m.out f) o;have d:=Q.out k o;obtain⟨x,g⟩:=xq (l[k]);rw[g] at I J K L M N d;obtain⟨B,E,q,xt,C,D⟩:=x;dsimp only at I J K L M N d;have hlm:(k:Int)<(l.length:Int):=(by omega);have hk0:(0:Int)<=(k:Int):=(by omega);clear g;by_cases g:q=1
  .subst g;obtain⟨t,rfl,i,r,F⟩:=d rfl;have R:=y5 (j.out t B E 1 C D wr i r F (u.out.up f z));clear d i r F;go_wp2_with fail;refine R.out.mono ?_;rintro e w2 ⟨rfl,i⟩;have r:=y5 (f.trans (i.mono z));clear i;go_wp2;go_roundw;exact⟨k+1,by omega,by go_num,r.out⟩;simp[intOf];omega
  have hk2:(q==1)=false:=by rw[kqc];exact g
  clear d g;go_wp2;go_roundw;exact⟨k+1,by omega,by go_num,f⟩;simp[intOf];omega
 obtain rfl:k=l.length:=(by omega);go_wp2;go_ret2;exact⟨⟨P,T,rfl,m.out.up f z,s.out⟩,h.out.trans (f.mono h.out.size)⟩
theorem i8(A:Option Addr)(G:List Nat)(c n:Nat)(w:World)(i:G.length=n)(h:ao G=0)(k:RdW w w.heap.size A G)(j:∀x∈G,x<2^64):
 Calls prog 241 #[.slice A n c,.int .i64 128] w λe a=>(∃A c,e=.returned (.tuple #[.slice A (aa G).length c,.bool true])/\RdB a a.heap.size A (aa G)/\(aa G).length<=c)/\Below w.heap.size w a:=by obtain⟨g,l,f,a,d⟩:=ax h;have e:=dA G g;rw[<-d] at f a;exact sA A G c n 128 (aa G) w i g (by omega) (by omega) f (dI G) (λb e=>kzt.1 a _ e) k j
theorem fR(A:Option Addr)(G:List Nat)(c n:Nat)(w:World)(b:G.length=n)(a:ao G=0)(g:RdW w w.heap.size A G)(f:∀x∈G,x<2^64):
 Calls prog 238 #[.slice A n c] w λe d=>e=.returned (.int .i64 0)/\Below w.heap.size w d:=by have i:=dA G (ax a).1;have d:=y5 (fu A n c w (by omega));rw[aM (by rw[<-b];exact (ax a).1)] at d;have h:=y5 (i8 A G c n w b a g f);clear g f a b i;go_enter func238,ntmps238;go_wp2_with fail;refine d.out.mono ?_;rintro e w1 ⟨rfl,rfl⟩;go_wp2_with fail;refine h.out.mono ?_;rintro e w2 ⟨⟨A1,c1,rfl,-,-⟩,a⟩;go_wp2;go_ret;exact⟨rfl,a⟩
structure MvL (G:List Nat) (l:List Bk) (s:Int):Prop where
 few:l.length<=1024
 all:ch G l s=true
 at_:∀b∈l,∃a:Nat,b=bkAt G a/\a+1<G.length/\2<=szAt G a/\szAt G a<=2048
 bd:∀k,k<=l.length->0<=aN (l.take k) s/\aN (l.take k) s<=4096
theorem MvL.word(h:MvL G l s)(e:k<l.length)(g:aE l[k]=true):∃a:Nat,l[k].at_=(a:Int)/\a+1<G.length/\((wd G (a+1):Nat):Int)=aN (l.take k) s:=by obtain⟨a,c,f,-⟩:=h.at_ _ (kqp e);refine⟨a,by rw[c];rfl,f,?_⟩;have b:=h.all;rw[<-kz6 k l,jK,kz8 e] at b;simp only[kqs,ch,g,if_true,kqw] at b;have d:=b.2.2.1;rw[c] at d;exact d
theorem zW(A LB:Option Addr)(G:List Nat)(l:List Bk)(c n d m:Nat)(s:Int)(w:World)(j:G.length=n)(hn2:n<=2048)(a:l.length=m)(h:MvL G l s)(o:RdW w w.heap.size A G)(f:RdB w w.heap.size LB l):
 Calls prog 273 #[.slice A n c,.slice LB m d,.int .i64 s] w λe b=>(∃B d',e=.returned (.tuple #[.slice B (aA l s).length d',.bool true])/\b.ownsRow w.heap.size 275 2 (.slice B (aA l s).length d') (aA l s).length ((aA l s).flatMap gn))/\Below w.heap.size w b:=by
 have Ku:=h.few;obtain⟨Kk,Kd⟩:=yq0 (zY LB l d m s w a (by omega) h.bd f) (λk (D:k<l.length) (h1:aE l[k]=true)=>h.word D h1);have Kj:Hid (∀k (D:k<l.length),(aQ l s)[k]? = some (if aE (gk l k) then aN (l.take k) s else 0)):=y5 λk D=>kz D;have Ka:Hid (∀k (D:k<l.length),gk l k=l[k]):=y5 λk D=>bG l k D;have Kg:=y5 (λk (D:k<l.length)=>ph D s);have Ke:Hid ((aA (l.take m) s)=aA l s):=y5 (by rw[<-a,kzb]);have Kf:Hid (∀k,(aA (l.take k) s).length<=k):=y5 λk=>kzu (ig _ s) (kky _ _);obtain⟨HPN,Eq⟩:=yq0 (de l s) h.bd;have Ko:Hid (∀W r,r<n->RdW W W.heap.size A G->∃b g,A=some ⟨b,g,none⟩/\b<W.heap.size/\W.cell? ⟨b,g+r,none⟩=some (.int .u64 (wd G r:Int))):=y5 λW r hr2 h=>by
  obtain⟨b,g,e,I,i⟩:=RdW.at_ h (show r<G.length by omega);rw[<-bY] at i;exact⟨b,g,e,I,i⟩
 obtain⟨Kc,Kh,HR,HL⟩:=yq2 a j o f;rw[a] at Ku;clear o f h a j;obtain⟨i0,h,a,f,M⟩:=kzh vU;obtain⟨HI,Kp,Kq,Kr⟩:=yq2 h a f M;clear h a f M;go_enter func273,ntmps273;go_wp2_with fail;refine Kk.out.mono ?_;rintro e J ⟨⟨BP,dP,rfl,f⟩,a⟩;have L:=y5 a;have Kl:=yq9 HR a;have Kb:=yq9 HL a;have Ki:=y5 (show RdI J J.heap.size BP (aQ l s) from Rd.of_own f);clear a f;go_wp2_with fail;go_loopw [10,11] (λh a wr=>∃k:Nat,k<=m/\a=.int .i64 k/\wr.ownsRow J.heap.size 275 2 h (aA (l.take k) s).length ((aA (l.take k) s).flatMap gn)/\Below J.heap.size J wr) (λ_ i _=>m-(intOf i).toNat)
 case atStart=>exact⟨0,kqv _,rfl,kq3 _ _ _ _,kqe _ _⟩
 obtain⟨k,D,rfl,o,P⟩:=hrel;have hz:=P.size;by_cases Y:k<m
 .have z:k<l.length:=by rw[Kc.out];exact Y
  obtain⟨b,g,rfl,I,K,V,X,Z,q4,q5⟩:=RdB.at_ (Rd.below Kb.out P) z;have i:=Kg.out k z;have q:=Kj.out k z;rw[Ka.out k z] at q;have C:=Kd.out k z;obtain⟨x,j⟩:=xq (l[k]);rw[j] at K V X Z q4 q5 i q C;have h:=y5 (pZ x wr);unfold sF at h;obtain⟨u,a⟩:=xq (aN (l.take k) s);obtain⟨b1,b2⟩:=Eq.out k (by omega);rw[a] at i q C b1 b2;have hml:=Kf.out k;have hk0:(0:Int)<=(k:Int):=(by omega);have hk1:(k:Int)<(m:Int):=(by omega);obtain⟨F,O⟩:=yq0 o P;clear o P j a;cases y:aE x
  .rw[y] at i h;rw[if_neg (by decide),kzf] at i;have r:=y5 i;obtain⟨xa,xs,xk,xt,xm,xn⟩:=x;dsimp only at K V X Z q4 q5 h;clear i q C y;go_wp2_with fail;refine h.out.mono ?_;rintro e w2 ⟨rfl,j⟩;obtain⟨t,E⟩:=yq0 (ag F.out j (kqa _)) (O.out.trans (j.mono hz));clear j;go_wp2;go_roundw;exact⟨k+1,by omega,by go_num,by rw[r.out];exact t.out,E.out⟩;simp[intOf];omega
  obtain⟨a,ea,ha,U⟩:=C y;rw[y] at i q h;rw[if_pos rfl] at i q;rw[ea] at K i;rw[Kh.out] at ha;obtain⟨bA,oA,v,Ks,v0⟩:=Ko.out wr (a+1) ha (Kl.out.up O.out hz);subst v;obtain⟨T,Q⟩:=kzd.1 q;obtain⟨H,N,v,R,p0⟩:=RdI.at_ (show RdI wr J.heap.size BP (aQ l s) from Rd.below Ki.out O.out) T;subst v;rw[Q] at p0;obtain⟨v,hv⟩:=xq (wd G (a+1));rw[hv] at v0 U;have r:=y5 (show (aA (l.take (k+1)) s).flatMap gn=(aA (l.take k) s).flatMap gn++[.int .i64 (a:Int),.int .i64 u]/\(aA (l.take (k+1)) s).length=(aA (l.take k) s).length+1 by rw[i,kzv,kqu];exact⟨rfl,rfl⟩);subst U;have hwu:IntKind.u64.wrap (v:Int)=(v:Int):=kzi _ (by omega);have hne:((v:Int) != (v:Int))=false:=by rw[kqt]
  have hwa:IntKind.i64.wrap ((a:Int)+1)=(a:Int)+1:=kqo _ (by omega);have ha0:(0:Int)<=(a:Int)+1:=(by omega);have ha1:(a:Int)+1<(n:Int):=(by omega);have htn:((a:Int)+1).toNat=a+1:=(by omega);have Kt:b<wr.heap.size:=(by omega);have U:H<wr.heap.size:=(by omega);obtain⟨xa,xs,xk,xt,xm,xn⟩:=x;dsimp only at K V X Z q4 q5 h ea;subst ea;clear i q C y Q T hv;go_wp2_with fail;refine h.out.mono ?_;rintro e w2 ⟨rfl,j⟩;obtain⟨t,E⟩:=yq0 (ag F.out j (kqa _)) (O.out.trans (j.mono hz));have r0:=(j.cell (p:=⟨b,g+k*6,none⟩) Kt).trans K;have s0:=(j.cell (p:=⟨H,N+k,none⟩) U).trans p0;have t0:=(j.cell (p:=⟨bA,oA+(a+1),none⟩) Ks).trans v0;have Km:=y5 (And.intro r0 s0);clear j K V X Z q4 q5 p0 v0;go_wp2_with fail;go_quiet (fail);go_wp2_with fail;obtain⟨C,cv,rfl⟩:=aw t.out;have M:=E.out.size;have q:=y5 (cF E.out nq).drew;have y:=y5 (show (w2.drewN nq).drew.ownsRow J.heap.size 275 2 (.slice C (aA (l.take k) s).length cv) (aA (l.take k) s).length ((aA (l.take k) s).flatMap gn) from ⟨t.out.1,t.out.2⟩);refine kz4 (S:=λX:World=>X.cell? ⟨b,g+k*6,none⟩=some (.int .i64 (a:Int))/\X.cell? ⟨H,N+k,none⟩=some (.int .i64 (v:Int))) (by kernel_rfl) Km.out (λi=>?_);show wpAnyH _ _ _ _ _ 14 _ _ _;refine tj 0 (.slice C (aA (l.take k) s).length cv) ?_;refine tj 1 (.slice (some ⟨b,g,none⟩) m d) ?_;refine tj 2 (.int .i64 (k:Int)) ?_;refine tj 3 (.pointer (some ⟨b,g+k*6,none⟩)) ?_;refine tj 4 (.pointer (some ⟨b,g+k*6,none⟩)) ?_;refine tj 5 (.int .i64 (a:Int)) ?_;refine tj 6 (.slice (some ⟨H,N,none⟩) m dP) ?_;refine tj 7 (.int .i64 (k:Int)) ?_;refine tj 8 (.pointer (some ⟨H,N+k,none⟩)) ?_;refine tj 9 (.int .i64 (v:Int)) ?_;refine tj 10 (.agg #[.int .i64 (a:Int),.int .i64 (v:Int)]) ?_
  dsimp only[Act.put,kqr,kqn,kql,kqd,kqk,kqj];obtain⟨W,j⟩:=xq ((w2.drewN nq).drew);rw[j] at q y i |-;have Kv:=q.out.size;have V:b<W.heap.size:=(by omega);have T:H<W.heap.size:=(by omega);clear j;refine kzr (rs:=[11]) (by kernel_rfl) (by simp) ?_;refine AllReadyH.cons rfl (λK Q=>?_) AllReadyH.nil;go_simp;refine Q.out _ _ ⟨(kzc W _ ⟨b,g+k*6,none⟩ V).trans i.1,(kzc W _ ⟨H,N+k,none⟩ T).trans i.2⟩ (λKn=>?_);clear Q K;refine kzr (rs:=[12]) (by kernel_rfl) (by simp) ?_;refine AllReadyH.cons rfl (λK Q=>?_) AllReadyH.nil;refine dD _ _ _ 223 (by rfl) J.heap.size 275 i0 _ 2 16 underlying223 HI.out Kp.out Kq.out Kr.out rfl (by decide) (.slice C (aA (l.take k) s).length cv) (aA (l.take k) s).length ((aA (l.take k) s).flatMap gn) (by rfl) (y.out.alloc _) (W.alloc (.cells #[.int .i64 (a:Int),.int .i64 (v:Int)] 275)).heap.size (some ⟨W.heap.size,0,none⟩) 1 1 [.int .i64 (a:Int),.int .i64 (v:Int)] (by rfl) (by rfl) (Rd.of_own (a8 (n:=1) (sz:=2) W 275 #[.int .i64 (a:Int),.int .i64 (v:Int)] (kqa _) (by rfl) (by unfold maxLen;omega))) (by simp[Value.oneCell']) (by unfold maxLen;omega) (by omega) (by rw[kqm];omega) ?_;intro v1 w8 f X;have j:=bi (q.out.alloc Kv _) (by rw[kqm];omega) (y.out.alloc _) X;have t:=y5 (And.intro ((j.cell (p:=⟨b,g+k*6,none⟩) I)) ((j.cell (p:=⟨H,N+k,none⟩) R)))
  have E:=y5 (And.intro ((q.out.cell (p:=⟨b,g+k*6,none⟩) I)) ((q.out.cell (p:=⟨H,N+k,none⟩) R)));refine Q.out _ _ ⟨t.out.1.trans (E.out.1.symm.trans i.1),t.out.2.trans (E.out.2.symm.trans i.2)⟩ (λHS4=>?_);have i:=y5 j;rw[<-r.out.1,<-r.out.2] at f;have Z:=y5 f;clear Q K Kn j f X;simp only[Act.put,kqd,kqk,kqj];refine tj 13 (v1) ?_;dsimp only[Act.put,kqr,kqn,kql,kqd,kqk,kqj];refine kx0 (by kernel_rfl) ?_ _;go_simp;go_wp2;go_roundw;exact⟨k+1,by omega,by go_num,Z.out,i.out⟩;simp[intOf];omega
 have a:k=m:=(by omega);have e:aA (l.take k) s=aA l s:=by rw[a];exact Ke.out
 rw[e] at o;obtain⟨C,h,rfl⟩:=aw o;obtain⟨F,O⟩:=yq0 o P;have hkd:decide ((k:Int)<(m:Int))=false:=(by rw[kqb];omega);have hkn:decide (k<m)=false:=by rw[kqb];exact Y
 clear a e o P;go_wp2;go_ret2;exact⟨⟨C,h,rfl,ab F.out L.out.size⟩,L.out.trans (O.out.mono L.out.size)⟩
theorem vC{f:Int}(h:bh G f s=0):∃(l:List Bk) (a b:Nat),f=(a:Int)/\s=(b:Int)/\blocks G a=some l/\am (G.length:Int)=true/\a%2=0/\128<=a/\b%2=0/\128<=b/\b<=a/\a<=G.length/\(∀x∈l,dQ G x=true)/\MvL G l s/\gQ G f s=aA l s:=by
 obtain⟨e,j,l,c,i,m⟩:=cu h;obtain⟨r1,r2,r3,r4,r5⟩:=gF j;have hb:=lA e;rw[fq] at e;obtain⟨a,g⟩:=kqz (show 0<=f by omega);obtain⟨b,d⟩:=kqz (show 0<=s by omega);subst g;subst d;rw[kqf] at c;have hch:=(bv (by omega) a l c (by omega) (by omega) (by omega)).1;obtain⟨q,r,t,t4⟩:=dx (jP (by omega) c (by omega) (by omega) (by omega) (s:=(b:Int)) (by omega) (by omega) (by omega));refine⟨l,a,b,rfl,rfl,c,e,by omega,by omega,by omega,by omega,by omega,by omega,?_,⟨by omega,i,?_,?_⟩,m⟩
 .intro x g;obtain⟨k,d,rfl⟩:=kqy g;exact (vX i d).1
 .intro x g;obtain⟨k,d,rfl⟩:=kqy g;obtain⟨p,n,p2,p3,p4,o,-⟩:=bN a l c (by omega) k d;have hsz:=aC o;exact⟨p,n,by omega,by omega,by omega⟩
 intro k d;have:=iw q d r t;omega
theorem qR(A:Option Addr)(G:List Nat)(c n:Nat)(f s:Int)(w:World)(q:G.length=n)(D:bh G f s=0)(u:RdW w w.heap.size A G)(E:∀x∈G,x<2^64):
 Calls prog 239 #[.slice A n c,.int .i64 f,.int .i64 s] w λe a=>(∃B d,e=.returned (.tuple #[.slice B (gQ G f s).length d,.int .i64 0])/\a.ownsRow w.heap.size 275 2 (.slice B (gQ G f s).length d) (gQ G f s).length ((gQ G f s).flatMap gn))/\Below w.heap.size w a:=by
 obtain⟨l,a,b,rfl,rfl,y,p,z,H,I,J,K,L,C,g,j⟩:=vC D;have M:=dA G p;rw[j];obtain⟨m,t⟩:=xq l.length;have k:=g.few;have v:=y5 (fu A n c w (by omega));rw[aM (by rw[<-q];exact p)] at v;obtain⟨i,r⟩:=yq0 (sA A G c n a l w q p z (by omega) y k C u E) (λo d W (h:RdW W W.heap.size A G) (F:RdB W W.heap.size o l)=>zW A o G l c n d m (b:Int) W q (by omega) t g h F);rw[t] at i;have F:=y5 u;have d1:decide ((b:Int)<128)=false:=(by rw[kqb];omega);have d2:decide ((a:Int)<(b:Int))=false:=(by rw[kqb];omega);have d3:decide ((n:Int)<(a:Int))=false:=(by rw[kqb];omega);have d2n:decide (a<b)=false:=(by rw[kqb];omega);have d3n:decide (n<a)=false:=(by rw[kqb];omega);have e1:Int.tmod (a:Int) 2=0:=by rw[kkp (by omega)];omega
 have e2:Int.tmod (b:Int) 2=0:=by rw[kkp (by omega)];omega
 clear u E y p z H I J K L C g j D k t M q;go_enter func239,ntmps239;go_wp2_with fail;refine v.out.mono ?_;rintro e w1 ⟨rfl,rfl⟩;go_wp2_with fail;refine i.out.mono ?_;rintro e y ⟨⟨o,u,rfl,h,-⟩,d⟩;have q:=yq9 F d;obtain⟨g,k⟩:=yq0 d h;clear d h;go_wp2_with fail;refine (r.out o u y q.out k.out).mono ?_;rintro e w3 ⟨⟨B,t,rfl,d⟩,h⟩;have j:=yq7 g h;have p:=y5 (ab d g.out.size);clear h d;go_wp2;go_ret2;exact⟨⟨B,t,rfl,p.out⟩,j.out⟩
theorem Ea(A:Option Addr)(G:List Nat)(c n t a:Nat)(xs l:Int)(m:Bool)(o:Nat)(w:World)(q:G.length=n)(Y:n<=1000000)(g:256<=n)(Z:t<8)(hx:a<=4096)(h:b8 (wd G (96+2*t)) (wd G (96+2*t+1))=true)(f:RdW w w.heap.size A G)(r:∀x∈G,x<2^64):
 Calls prog 245 #[.slice A n c,sF ⟨(a:Int),xs,l,(t:Int),m,o⟩] w λe b=>(∃B d,e=.returned (.slice B (da G ⟨(a:Int),xs,l,(t:Int),m,o⟩).length d)/\b.ownsRow w.heap.size 3 1 (.slice B (da G ⟨(a:Int),xs,l,(t:Int),m,o⟩).length d) (da G ⟨(a:Int),xs,l,(t:Int),m,o⟩).length ((da G ⟨(a:Int),xs,l,(t:Int),m,o⟩).flatMap aV))/\Below w.heap.size w b:=by
 have i:da G ⟨(a:Int),xs,l,(t:Int),m,o⟩=mi (cG (wd G (96+2*t))) (a:Int) (cG (wd G (96+2*t))).length:=by have e:s9 G ⟨(a:Int),xs,l,(t:Int),m,o⟩=bB (wd G (96+2*t)) (wd G (96+2*t+1)):=rfl;unfold da;rw[e];unfold bB;rw[if_pos h]
 rw[i];unfold sF;dsimp only;have T:=y5 (λW (f:RdW W W.heap.size A G)=>nA A G c n t W q Y g Z h f r);have S:(cG (wd G (96+2*t))).length<=8:=by rw[dp];exact (fW h).1
 obtain⟨F,b⟩:=xq (cG (wd G (96+2*t)));rw[b] at T S |-;obtain⟨HR,K,J⟩:=yq1 f (λj=>nt F (a:Int) j) (λj=>lv F (a:Int) j);have E:Hid (∀k (R:k<F.length),F[k]? = some F[k]):=y5 λk R=>kqg R;have u:=Bx.new w 55 #[.int .i64 (a:Int),.int .i64 xs,.int .i64 l,.int .i64 (t:Int),.bool m,.int .u64 (o:Int)];obtain⟨s,j⟩:=yq0 ((f.alloc (kqa _) (.cells #[.int .i64 (a:Int),.int .i64 xs,.int .i64 l,.int .i64 (t:Int),.bool m,.int .u64 (o:Int)] 55)).more (show w.heap.size<=(w.alloc (.cells #[.int .i64 (a:Int),.int .i64 xs,.int .i64 l,.int .i64 (t:Int),.bool m,.int .u64 (o:Int)] 55)).heap.size by simp)) ((kqe w.heap.size w).alloc (kqa _) (.cells #[.int .i64 (a:Int),.int .i64 xs,.int .i64 l,.int .i64 (t:Int),.bool m,.int .u64 (o:Int)] 55));have y:w.heap.size<(w.alloc (.cells #[.int .i64 (a:Int),.int .i64 xs,.int .i64 l,.int .i64 (t:Int),.bool m,.int .u64 (o:Int)] 55)).heap.size:=(by simp);have O:=y5 u;clear f r h q g u i b;obtain⟨i0,h,b,f,g⟩:=kzh nH;obtain⟨W,L,M,N⟩:=yq2 h b f g;clear h b f g;go_enter func245,ntmps245;go_wp2_with fail;obtain⟨V,b⟩:∃V,w.alloc (.cells #[.int .i64 (a:Int),.int .i64 xs,.int .i64 l,.int .i64 (t:Int),.bool m,.int .u64 (o:Int)] 55)=V:=⟨_,rfl⟩;rw[b] at s j O y |-;clear b;refine (T.out _ s.out).mono ?_;rintro e z ⟨⟨A1,c1,rfl,f⟩,b⟩;obtain⟨X,H⟩:=yq0 (O.out.up b O.out.lt) f;have D:=yq7 j b;have q:w.heap.size<z.heap.size:=kxm y b.size;clear b f;go_wp2_with fail;go_loopw [7,8] (λf b wr=>∃k:Nat,k<=F.length/\b=.int .i64 k/\wr.ownsRow z.heap.size 3 1 f (mi F (a:Int) k).length ((mi F (a:Int) k).flatMap aV)/\Below z.heap.size z wr) (λ_ i _=>F.length-(intOf i).toNat)
 case atStart=>exact⟨0,kqv _,rfl,kq3 _ _ _ _,kqe _ _⟩
 obtain⟨k,R,rfl,g,r⟩:=hrel;have hz:=r.size;by_cases v:k<F.length
 .obtain ⟨b,off,rfl,hb,U⟩:=RdI.at_ (Rd.below H.out r) (show k<(F.map λx:Nat=>(x:Int)).length by rw[kzw];exact v);rw[List.getElem_map] at U;have h:=K.out k;rw[E.out k v] at h;have hrl:=J.out k;obtain⟨f,Q⟩:=xq (F[k]);rw[Q] at U h;have hk0:(0:Int)<=(k:Int):=(by omega);have hk1:(k:Int)<(F.length:Int):=(by omega);have p0:=(r.cell (p:=⟨w.heap.size,0,none⟩) q).trans (X.out.cell 0);have w1:IntKind.i64.wrap ((a:Int)+2)=(a:Int)+2:=kqo _ (by omega);have w2:IntKind.i64.wrap ((a:Int)+2+(k:Int))=(a:Int)+2+(k:Int):=kqo _ (by omega);by_cases P:f=3
  .subst P;rw[if_pos rfl] at h;have x:=y5 (show (mi F (a:Int) (k+1)).flatMap aV=(mi F (a:Int) k).flatMap aV++[.int .i64 ((a:Int)+2+(k:Int))]/\(mi F (a:Int) (k+1)).length=(mi F (a:Int) k).length+1 by rw[h,kzv,kqu];exact⟨rfl,rfl⟩);clear h Q;go_wp2_with (at_builtin;refine kq7 _ rfl _ _ 42 rfl z.heap.size 3 i0 _ 1 8 underlying42 W.out L.out M.out N.out rfl (by decide) _ _ _ rfl (g.alloc _) ⟨_,0,none⟩ 1 1 [.int .i64 ((a:Int)+2+(k:Int))] rfl rfl (bc _ _ _) (by simp[Value.oneCell']) (by unfold maxLen;omega) (by omega) (by simp;omega) ?_;intro v1 w3 i u _;have C:=y5 (ay r hz g u);have I:=y5 i;clear i u);go_roundw;exact⟨k+1,by omega,by go_num,by rw[x.out.1,x.out.2];exact I.out,C.out⟩;simp[intOf];omega
  have h3b:((f:Int)==3)=false:=(by rw[kqc];omega);rw[if_neg (by intro e;injection e with e;exact P e),kzf] at h;obtain⟨x,i⟩:=yq0 h g;clear h Q P g;go_wp2;go_roundw;exact⟨k+1,by omega,by go_num,by rw[x.out];exact i.out,r⟩;simp[intOf];omega
 obtain rfl:k=F.length:=(by omega);obtain⟨b,e,rfl⟩:=aw g;go_wp2;go_ret;exact⟨⟨b,e,rfl,ab g (kjn q)⟩,D.out.trans (r.mono (kjn q))⟩
theorem rk(f:aK G=0)(h:Rch G a):fG G a/\∃k,∃c:k<(aa G).length,(aa G)[k]=bkAt G a/\zg (aa G) (a:Int)=(k:Int):=by
 obtain⟨g,h1,o⟩:=aL f;have m:=(iy g (o a h)).1;refine⟨m,?_⟩;obtain⟨-,-,-,-,n,-,k,c,e,-⟩:=m;refine⟨k,c,e,z6 c (λj p=>?_) (by rw[e];show (((a:Int)==(a:Int))&&(aq (wd G a)).kind==1)=true;rw[n];simp)⟩;obtain⟨-,l,i,-,d⟩:=ax g;rw[<-d] at i;have b:=zz _ _ i;have h3:=kzg.1 b.2 j k (by omega) c p;have h4:=(b.1 (aa G)[j] (kqp (by omega))).2;rw[bG (aa G) j (by omega)];have h5:(aa G)[k].at_=(a:Int):=by rw[e];rfl
 rw[kj6];refine .inl ?_;rw[kqc];omega
def flg (F:List Bool) (k:Nat):Bool:=F[k]?.getD false
theorem IS(h:flg F k=true):flg (F.set n true) k=true:=by
 unfold flg at h |-;by_cases e:n=k
 .subst e;by_cases a:n<F.length
  .rw[kz0 a];rfl
  rw[kzj (by omega)] at h;cases h
 rw[kxs e];exact h
theorem mQ(h:flg F n=true):F.set n true=F:=by
 unfold flg at h;by_cases a:n<F.length
 .rw[kqg a,kq9] at h;rw[<-h,List.set_getElem_self]
 rw[kzj (by omega)] at h;cases h
def mu (F:List Bool):Nat:=(F.filter (λx=>!x)).length
theorem Em:∀ {F:List Bool} {n:Nat},n<F.length->flg F n=false->mu (F.set n true)+1=mu F:=by
 intro F
 induction F with
 | nil=>intro n h;simp at h
 | cons x F d =>
  intro n h a;cases n with
  | zero =>have:x=false:=a;subst this;simp[mu]
  | succ n =>
   have:=d (n:=n) (by simpa using h) a;rw[kqj];cases x
   .simp only[mu,kvc,kju,kq4] at this |-;omega
   have b:mu (true::F.set n true)=mu (F.set n true):=by simp[mu]
   have c:mu (true::F)=mu F:=by simp[mu]
   rw[b,c];exact this
def BL (G:List Nat) (F:List Bool) (a:Nat):Prop:=∃k:Nat,zg (aa G) (a:Int)=(k:Int)/\flg F k=true
theorem BL.set(h:BL G F a):BL G (F.set n true) a:=by obtain⟨k,b,c⟩:=h;exact⟨k,b,IS c⟩
structure FdOk (G:List Nat) (F:List Bool):Prop where
 len:F.length=(aa G).length
 sub:∀k (h:k<(aa G).length),flg F k=true->∃a:Nat,(aa G)[k]=bkAt G a/\Rch G a
theorem FdOk.set(h:FdOk G F)(hn:n<(aa G).length)(e:(aa G)[n]=bkAt G a)(f:Rch G a):FdOk G (F.set n true):=by
 refine⟨by rw[kq5];exact h.len,λk d c=>?_⟩;by_cases b:n=k
 .subst b;exact⟨a,e,f⟩
 refine h.sub k d ?_;unfold flg at c |-;rwa [kxs b] at c
theorem EN(G:List Nat):FdOk G (List.replicate (aa G).length false):=by refine⟨kja,λk b a=>?_⟩;unfold flg at a;rw[kjt,if_pos b] at a;cases a
def qA (G:List Nat) (F:List Bool) (i:Nat):Prop:=∀j,j<i->(slAt G j).used=true->BL G F (slAt G j).at_.toNat
def closeB (G:List Nat) (F:List Bool) (b:Bk) (J:Nat):Prop:=∀j (h:j<(da G b).length),j<J->wd G (da G b)[j].toNat≠0->BL G F (wd G (da G b)[j].toNat)
def jQ (G:List Nat) (F:List Bool) (i:Nat):Prop:=∀k (h:k<(aa G).length),k<i->flg F k=true->closeB G F (aa G)[k] (da G (aa G)[k]).length
theorem GG(b:(flds G a)[i]? = some 3):∃j,∃h:j<(da G (bkAt G a)).length,(da G (bkAt G a))[j]=((a+2+i:Nat):Int):=by
 have d:((a+2+i:Nat):Int)∈da G (bkAt G a):=by have e:s9 G (bkAt G a)=flds G a:=rfl;unfold da;rw[e];unfold mi;rw[kjg];obtain⟨c,-⟩:=kzd.1 b;exact⟨i,kzn.2 c,by rw[if_pos b,af];congr 1⟩
 exact kqy d
theorem Gj{j:Nat}(h:j<(da G (bkAt G a)).length):∃i,(flds G a)[i]? = some 3/\(da G (bkAt G a))[j]=((a+2+i:Nat):Int):=by
 have c:=kqp h;have e:s9 G (bkAt G a)=flds G a:=rfl;revert c;generalize (da G (bkAt G a))[j]=r;unfold da;rw[e];unfold mi;rw[kjg];rintro ⟨i,-,b⟩;split at b
 .rename_i h3;refine⟨i,h3,?_⟩;injection b with b;rw[<-b,af];omega
 cases b
theorem Gi(b:aK G=0)(h:Rch G a)(j:(flds G a)[i]? = some 3)(k:wd G (a+2+i)≠0):wd G (a+2+i)<2048/\Rch G (wd G (a+2+i)):=by
 obtain⟨d,h1,g⟩:=aL b;have c:=Rch.ref a i h (g a h) j k;have e:=(rk b c).1;have hb:=dA G (ax d).1;have h4:=e.2.2.1;have f:min (wd G (a+2+i)) 2048=wd G (a+2+i):=(by omega);rw[f] at c;exact⟨by omega,c⟩
theorem fd_end(d:aK G=0)(h:FdOk G F)(A:qA G F 16)(z:jQ G F (aa G).length):F=(aa G).map (dH G):=by
 obtain⟨y,h1,hg⟩:=aL d;have hb:=dA G (ax y).1;have x:∀a,Rch G a->BL G F a:=by
  intro a b
  induction b with
  | slot i e c=>exact A i e c
  | ref a i b ht e p j =>
   obtain⟨-,k,f,c,o⟩:=rk d b;obtain⟨g,s,t⟩:=j;obtain rfl:g=k:=(by omega);obtain⟨g1,g2⟩:=Gi d b e p;obtain⟨j,m,q⟩:=GG e;have n:=z g f f t;rw[c] at n;have l:=n j m m;rw[q,kqf] at l;rw[show min (wd G (a+2+i)) 2048=wd G (a+2+i) by omega];exact l p
 apply List.ext_getElem (by rw[kzw];exact h.len);intro k f b;rw[kzw] at b;rw[List.getElem_map];have e:flg F k=F[k]:=by unfold flg;rw[kqg f];rfl
 obtain⟨-,l,w,-,m⟩:=ax y;have u:∃a:Nat,(aa G)[k]=bkAt G a/\a<G.length:=by simp only[m];obtain⟨a,c,-,-,o,-⟩:=bN _ _ w (by omega) k (by rw[<-m];exact b);exact⟨a,c,o⟩
 obtain⟨a,p,i⟩:=u;rw[<-m] at w;rw[p];cases r:dH G (bkAt G a) with
 | true =>
  obtain⟨-,B,j,c,o⟩:=rk d ((dV i).1 r);obtain⟨g,s,t⟩:=x a ((dV i).1 r);obtain rfl:g=B:=(by omega);have v:g=k:=by
   have f:=zz _ _ w;rcases kkh g k with q|q|q
   .have:=kzg.1 f.2 g k j b q;have n:=(f.1 (aa G)[g] (kqp j)).2;rw[p,c] at this;rw[c] at n;omega
   .exact q
   have:=kzg.1 f.2 k g b j q;have n:=(f.1 (aa G)[k] (kqp b)).2;rw[p,c] at this;rw[p] at n;omega
  subst v;rw[<-e];exact t
 | false =>
  cases f:flg F k with
  | false=>rw[<-e];exact f
  | true =>
   obtain⟨g,c,o⟩:=h.sub k b f;have s:g=a:=by have:=congrArg Bk.at_ (c.symm.trans p);rw[af,af] at this;omega
   subst s;rw[(dV i).2 o] at r;cases r
def muF (F:List Bool) (b:Bool):Nat:=mu F+(if b=true then 1 else 0)
theorem tw(A:Option Addr)(c n:Nat)(w:World)(s:G.length=n)(hm:n<=2048)(q:256<=n)(p:ao G=0)(h:fG G a)(v:RdW w w.heap.size A G)(u:∀x∈G,x<2^64):
 Calls prog 245 #[.slice A n c,sF (bkAt G a)] w λe f=>(∃B d,e=.returned (.slice B (da G (bkAt G a)).length d)/\f.ownsRow w.heap.size 3 1 (.slice B (da G (bkAt G a)).length d) (da G (bkAt G a)).length ((da G (bkAt G a)).flatMap aV))/\Below w.heap.size w f:=by
 obtain⟨h1,h3,h4,h5,m,f,k,r,j,-⟩:=h;rw[iC (G:=G) (b:=bkAt G a) m] at f;simp only[kqs,kqw] at f;have y:∃t:Nat,(bkAt G a).typ=(t:Int)/\t<8:=by obtain⟨-,l,o,-,i⟩:=ax p;rw[<-i] at o;have g:=gK o (by omega) r (by rw[j];exact m);rw[j] at g;obtain⟨t,e⟩:=kqz g.1;exact⟨t,e,by omega⟩
 obtain⟨t,i,g⟩:=y;have e:tyA (bkAt G a)=96+2*t:=by unfold tyA;rw[i];simp
 rw[e] at f;have l:bkAt G a=⟨(a:Int),(bkAt G a).size,(bkAt G a).kind,(t:Int),(bkAt G a).mark,(bkAt G a).next⟩:=by rw[<-i,<-af G a]
 have e:=Ea A G c n t a (bkAt G a).size (bkAt G a).kind (bkAt G a).mark (bkAt G a).next w s (by omega) q g (by omega) f.1 v u;rw[<-l] at e;exact e
theorem Ca(A LB:Option Addr)(G:List Nat)(c n d m:Nat)(w:World)(z:G.length=n)(j:aK G=0)(y:(aa G).length=m)(H:RdW w w.heap.size A G)(N:∀x∈G,x<2^64)(Q:RdB w w.heap.size LB (aa G)):
 Calls prog 242 #[.slice A n c,.slice LB m d] w λe a=>(∃g c',e=.returned (.tuple #[.slice (some ⟨g,0,none⟩) m c',.bool true])/\a.ownsRow w.heap.size 4 1 (.slice (some ⟨g,0,none⟩) m c') m (((aa G).map (dH G)).flatMap bg))/\Below w.heap.size w a:=by
 obtain⟨I,s,J⟩:=aL j;have K:=dA G (ax I).1;rw[z] at K;have hml:m<=1024:=by rw[<-y];exact dI G
 have HT:=y5 (λW (h:RdW W W.heap.size A G)=>lZ A G c n W z (by omega) (by omega) h N);unfold Bw at HT;rw[s] at HT;obtain⟨Kj,Lc,Kf,Lh,Kk⟩:=yq3 (λa W (h:RdB W W.heap.size LB (aa G))=>Gx LB (aa G) d m a W y (by omega) h) (λa W (h:fG G a) (H:RdW W W.heap.size A G)=>tw (G:=G) (a:=a) A c n W z (by omega) (by omega) I h H N) (λa (h:Rch G a)=>rk j h) (λa i (h:Rch G a) O hv=>Gi (a:=a) (i:=i) j h O hv) (λF (h:FdOk G F) D V=>fd_end j h D V);have Le:Hid (∀i (h:i<(slL G).length),(slL G)[i]=slAt G i):=y5 λi h=>by simp[slL]
 have Lf:Hid ((slL G).length=16):=y5 (by simp[slL]);have Lg:Hid (∀i,i<16->(slAt G i).used=true->∃q:Nat,(slAt G i).at_=(q:Int)/\Rch G q):=y5 λi O hu=>by
  have M:=(cO G).1 s i O;unfold my at M;rw[if_pos hu] at M;simp only[kqs,kze] at M;obtain⟨q,o⟩:=kqz (show 0<=(slAt G i).at_ by omega);have D:=Rch.slot i O hu;rw[o,kqf] at D;exact⟨q,o,D⟩
 have Lj:Hid (∀W r,r<n->RdW W W.heap.size A G->∃b off,A=some ⟨b,off,none⟩/\b<W.heap.size/\W.cell? ⟨b,off+r,none⟩=some (.int .u64 (wd G r:Int))):=y5 λW r Lq h=>by
  obtain⟨b,off,e,f,k⟩:=RdW.at_ h (show r<G.length by omega);rw[<-bY] at k;exact⟨b,off,e,f,k⟩
 have Kv:Hid (∀a i,fG G a->(flds G a)[i]? = some 3->a+2+i<n):=y5 λa i h O=>by
  rw[<-z];exact nk h (kzd.1 O).1
 obtain⟨t,HR,HL,Kl⟩:=yq2 y H Q (EN G);rw[y] at Kl;obtain⟨i0,O,B,C,E⟩:=kzh rZ;obtain⟨W0,L,f,v⟩:=run_make_full (P:=prog) w w.heap.size 114 4 i0 (.bool false) 1 underlying114 O B C .i64 .i64 m (by rw[E];omega) (by unfold maxLen;omega) (kqa _);have u:W0.ownsRow w.heap.size 4 1 (.slice (some ⟨w.heap.size,0,none⟩) m m) m ((List.replicate m false).flatMap bg):=by rw[pQ,<-toList_madeCells_one];have:=f;rw[kjd] at this;exact this
 have Kn:=y5 u;have l:=(kqe w.heap.size w).grown v (kqa _) (λk Y=>by cases Y);have Z:=y5 l;clear H N Q I s J y z j O B C E f v u l;go_enter func242,ntmps242;go_wp2_with fail;refine (HT.out W0 (yq8 HR Z)).mono ?_;rintro e w1 ⟨⟨AS,nS,cS,rfl,l⟩,f⟩;obtain⟨rfl,hcS,j⟩:=l trivial;have Kp:=yq7 Z f;obtain⟨Ky,Ld⟩:=yq0 (ag Kn.out f (kqa _)) j;clear f l j L;go_wp2_with fail;go_loopw [9] (λS wr=>∃(i:Nat) (F:List Bool),i<=16/\S=.int .i64 i/\Hid (FdOk G F)/\Hid (qA G F i)/\wr.ownsRow w.heap.size 4 1 (.slice (some ⟨w.heap.size,0,none⟩) m m) m (F.flatMap bg)/\Below w.heap.size w wr/\Hid (wr.ownsRow W0.heap.size 52 3 (.slice AS 16 cS) 16 ((slL G).flatMap Sl.cells))) (λi _=>16-(intOf i).toNat)
 case atStart=>exact⟨0,_,by omega,rfl,Kl,λj h=>absurd h (by omega),Ky.out,Kp.out,Ld⟩
 obtain⟨i,F,O,rfl,HF,T,f,y,H⟩:=hrel;have hz:=y.size;by_cases C:i<16
 .obtain ⟨bS,oS,rfl,hbS,X,Q,W⟩:=RdS.at_ (show RdS wr wr.heap.size AS (slL G) from Rd.of_own H.out) (show i<(slL G).length by rw[Lf.out];exact C);rw[Le.out] at X Q W;have B:=Lg.out i C;have Ln:(0:Int)<=(i:Int):=(by omega);have Lo:(i:Int)<16:=(by omega);obtain⟨l,s⟩:=yq0 f y;obtain⟨u,hu⟩:=xq ((slAt G i).used);rw[hu] at Q B;clear f y;cases u
  .have v:Hid (qA G F (i+1)):=y5 λj hj z=>by
    rcases kq8 j i with h|h
    .exact T.out j h z
    have:j=i:=(by omega);subst this;rw[hu] at z;cases z
   clear B hu;go_wp2;go_roundw;exact⟨i+1,F,by omega,by go_num,HF,v,l.out,s.out,H⟩;simp[intOf];omega
  obtain⟨q,o,E⟩:=B rfl;rw[o] at W;obtain⟨-,k,Y,ek,ix⟩:=Kf.out q E;rw[t.out] at Y;have HA:=y5 (Kj.out (q:Int) wr (yq8 HL s));rw[ix] at HA;have L:=y5 (HF.out.set (show k<(aa G).length by rw[t.out];exact Y) ek E);have v:Hid (qA G (F.set k true) (i+1)):=y5 λj hj z=>by
   rcases kq8 j i with h|h
   .exact (T.out j h z).set
   have:j=i:=(by omega);subst this;rw[o,kqf];refine⟨k,ix,?_⟩;unfold flg;rw[kz0 (by rw[HF.out.len,t.out];exact Y)];rfl
  have R:Hid (F.length=m):=y5 (by rw[HF.out.len,t.out]);clear B hu o E ek ix;have Lp:decide ((k:Int)<0)=false:=(by rw[kqb];omega);go_wp2_with fail;refine HA.out.mono ?_;rintro e w2 ⟨rfl,z⟩;have B:=ag l.out z (kqa _);have c0:=(B.cellAt k (by omega)).trans (jG F k (by rw[R.out];exact Y));have f0:=B.frozenAt k;have J:=(B.stored k (.bool true)).1;rw[<-nJ] at J;obtain⟨U,I⟩:=yq0 J ((s.out.trans (z.mono hz)).setCell (p:=⟨w.heap.size,k,none⟩) (kqa _) (.bool true));have E:=ag H.out z (kqa _);have N:=y5 (ar E (p:=⟨w.heap.size,k,none⟩) (bI E (show w.heap.size<W0.heap.size from (Kn.out.lt w.heap.size rfl).2)).symm (.bool true));clear z B J E;go_wp2;go_roundw;exact⟨i+1,F.set k true,by omega,by go_num,L,v,U.out,I.out,N⟩;simp[intOf];omega
 have W:i=16:=(by omega);have T:Hid (qA G F 16):=by rw[<-W];exact T
 have Ll:decide ((i:Int)<16)=false:=(by rw[kqb];omega);have Lm:decide (i<16)=false:=by rw[kqb];exact C
 obtain⟨l,s⟩:=yq0 f y;clear W C O f y H hz;go_wp2_with fail;go_loopg [11] (mu F+2) (λgk va wr=>∃(Gq:List Bool) (b:Bool),va=.bool b/\Hid (FdOk G Gq)/\Hid (qA G Gq 16)/\Hid (b=false->jQ G Gq m)/\Hid (muF Gq b<gk)/\wr.ownsRow w.heap.size 4 1 (.slice (some ⟨w.heap.size,0,none⟩) m m) m (Gq.flatMap bg)/\Below w.heap.size w wr)
 case atStart=>exact⟨F,true,rfl,HF,T,λh=>(by cases h),(by show mu F+1<mu F+2;omega),l.out,s.out⟩
 obtain⟨Gq,b,rfl,HG,Km,Ks,Kx,f,y⟩:=hrel;have hz:=y.size;obtain⟨l,s⟩:=yq0 f y;clear f y;cases b
 .have Q:=y5 (Kk.out Gq HG.out Km.out (by rw[t.out];exact Ks.out rfl));go_wp2;go_ret2;exact⟨⟨w.heap.size,m,rfl,by rw[<-Q.out];exact l.out⟩,s.out⟩
 go_wp2_with fail;go_loopw [11,12] (λva S u=>∃(i:Nat) (b:Bool) (E:List Bool),i<=m/\va=.bool b/\S=.int .i64 i/\Hid (FdOk G E)/\Hid (qA G E 16)/\Hid (b=false->jQ G E i)/\Hid (muF E b<=mu Gq)/\u.ownsRow w.heap.size 4 1 (.slice (some ⟨w.heap.size,0,none⟩) m m) m (E.flatMap bg)/\Below w.heap.size w u) (λ_ i _=>m-(intOf i).toNat)
 case atStart=>exact⟨0,false,Gq,by omega,rfl,rfl,HG,Km,λ_ k h D=>absurd D (by omega),(by show mu Gq+0<=mu Gq;omega),l.out,s.out⟩
 obtain⟨i,b,E,O,rfl,rfl,Q,I,u,B,f,y⟩:=hrel;have hz:=y.size;by_cases C:i<m
 .have N:E.length=m:=by rw[Q.out.len,t.out]
  have c0:=(f.cellAt i (by omega)).trans (jG E i (by omega))
  change wr.cell? ⟨w.heap.size,i,none⟩=some (.bool (flg E i)) at c0
  have Ln:(0:Int)<=(i:Int):=(by omega);have Lo:(i:Int)<(m:Int):=(by omega);have R:Hid (E.length=m):=y5 N;obtain⟨l,s⟩:=yq0 f y;clear f y N;cases z:flg E i
  .rw[z] at c0;have Kd:Hid (b=false->jQ G E (i+1)):=y5 λK k h D v=>by
    rcases kq8 k i with V|V
    .exact u.out K k h V v
    have:k=i:=(by omega);subst this;rw[z] at v;cases v
   clear z;go_wp2;go_roundw;exact⟨i+1,b,E,by omega,rfl,by go_num,Q,I,Kd,B,l.out,s.out⟩;simp[intOf];omega
  rw[z] at c0;obtain⟨a,ea,S⟩:=Q.out.sub i (by rw[t.out];exact C) z;have H:=(Kf.out a S).1;have o:=Lc.out a wr H (yq8 HR s);obtain⟨L,hL⟩:=xq (da G (bkAt G a));have Kw:Hid (∀j (h:j<L.length),∃i',(flds G a)[i']? = some 3/\L[j]=((a+2+i':Nat):Int)):=y5 (by rw[<-hL];exact λj h=>Gj h);have Kt:Hid (∀X,(∀j (h:j<L.length),wd G L[j].toNat≠0->BL G X (wd G L[j].toNat))->jQ G X i->jQ G X (i+1)):=y5 λX M D k h V v=>by
   rcases kq8 k i with h4|h4
   .exact D k h h4 v
   have:k=i:=(by omega);subst this;rw[ea];intro j hj _ hv;simp only[hL] at hj hv |-;exact M j hj hv
  have hL8:L.length<=8:=by rw[<-hL];exact kzu (lv _ _ _) (ke _ _)
  rw[hL] at o;obtain⟨bL,oL,rfl,hbL,X,q1,q2,q3,q4,q5⟩:=RdB.at_ (show RdB wr w.heap.size LB (aa G) from Rd.below HL.out s.out) (show i<(aa G).length by rw[t.out];exact C);rw[ea] at X q1 q2 q3 q4 q5;unfold sF at o;obtain⟨x,v⟩:=xq (bkAt G a);rw[v] at X q1 q2 q3 q4 q5 o;obtain⟨xa,xs,xk,xt,xm,xn⟩:=x;dsimp only at X q1 q2 q3 q4 q5 o;obtain⟨HQ,Lb,La,HFI⟩:=yq2 o S H z;clear o hL ea v S H z;go_wp2_with fail;refine HQ.out.mono ?_;rintro e w3 ⟨⟨BR,dR,rfl,o⟩,v⟩;obtain⟨Kq,Kz,Li⟩:=yq1 (s.out.trans (v.mono hz)) (ag l.out v (kqa _)) (ab o (show w.heap.size+1<=wr.heap.size from (l.out.lt w.heap.size rfl).2));clear v o X q1 q2 q3 q4 q5 c0;go_wp2_with fail;go_loopw [11,14] (λva o v=>∃(j:Nat) (b:Bool) (E:List Bool),j<=L.length/\va=.bool b/\o=.int .i64 j/\Hid (FdOk G E)/\Hid (qA G E 16)/\Hid (b=false->jQ G E i/\∀o (h:o < L.length),o < j->wd G L[o].toNat≠0->BL G E (wd G L[o].toNat))/\Hid (muF E b<=mu Gq)/\v.ownsRow w.heap.size 4 1 (.slice (some ⟨w.heap.size,0,none⟩) m m) m (E.flatMap bg)/\Below w.heap.size w v/\Hid (v.ownsRow (w.heap.size+1) 3 1 (.slice BR L.length dR) L.length (L.flatMap aV))) (λ_ j _=>L.length-(intOf j).toNat)
  case atStart=>exact⟨0,b,E,by omega,rfl,rfl,Q,I,λK=>⟨u.out K,λo _ h=>absurd h (by omega)⟩,B,Kz.out,Kq.out,Li⟩
  obtain⟨j,b,E,hj,rfl,rfl,Q,I,u,B,f,y,HW⟩:=hrel;have hz:=y.size;have N:E.length=m:=by rw[Q.out.len,t.out]
  have R:Hid (E.length=m):=y5 N;by_cases Kb:j<L.length
  .obtain ⟨i',X,g2⟩:=Kw.out j Kb;have Ko:=Kv.out a i' La.out X;obtain⟨bA,oA,hA,hbA,v0⟩:=Lj.out wr (a+2+i') Ko (HR.out.up y hz);obtain⟨bR,oR,Lk,hbR,r0⟩:=RdI.at_ (show RdI wr wr.heap.size BR L from Rd.of_own HW.out) Kb;rw[g2] at r0;have Eq:Hid (wd G L[j].toNat=wd G (a+2+i')):=y5 (by rw[g2,kqf]);have Kg:=y5 (Lh.out a i' Lb.out X);obtain⟨r,H⟩:=xq (a+2+i');rw[H] at Ko v0 r0 Eq Kg;obtain⟨v,S⟩:=xq (wd G r);rw[S] at v0 Eq Kg;subst hA Lk;have hj0:(0:Int)<=(j:Int):=(by omega);have hj1:(j:Int)<(L.length:Int):=(by omega);have hr1:(0:Int)<=(r:Int):=(by omega);have Lq:(r:Int)<(n:Int):=(by omega);obtain⟨l,s⟩:=yq0 f y;clear X g2 H S f y N;by_cases hv:v=0
   .have Kd:Hid (b=false->jQ G E i/\∀o (h:o < L.length),o < j+1->wd G L[o].toNat≠0->BL G E (wd G L[o].toNat)):=y5 λK=>⟨(u.out K).1,λo h D V=>by
     rcases kq8 o j with h4|h4
     .exact (u.out K).2 o h h4 V
     have:o=j:=(by omega);subst this;rw[Eq.out] at V;exact absurd hv V⟩
    have X:((v:Int)==0)=true:=(by rw[kqw];omega);clear hv;go_wp2;go_roundw;exact⟨j+1,b,E,by omega,rfl,by go_num,Q,I,Kd,B,l.out,s.out,HW⟩;simp[intOf];omega
   obtain⟨Kc,Ka⟩:=Kg.out hv;obtain⟨-,k,Y,ek,ix⟩:=Kf.out v Ka;rw[t.out] at Y;have HA:=y5 (Kj.out (v:Int) wr (yq8 HL s));rw[ix] at HA;have Ke:=y5 (Q.out.set (show k<(aa G).length by rw[t.out];exact Y) ek Ka);have S:Hid (qA G (E.set k true) 16):=y5 λH M D=>(I.out H M D).set;have H:k<E.length:=by rw[R.out];exact Y
   have Ku:Hid (BL G (E.set k true) v):=y5 ⟨k,ix,by unfold flg;rw[kz0 H];rfl⟩;have X:((v:Int)==0)=false:=(by rw[kqc];omega);have hv8:decide ((v:Int)<2048)=true:=(by rw[kqh];omega);have Lp:decide ((k:Int)<0)=false:=(by rw[kqb];omega);have hk0:(0:Int)<=(k:Int):=(by omega);have hk1:(k:Int)<(m:Int):=(by omega);have hwv:IntKind.i64.wrap (v:Int)=(v:Int):=kqo _ (by omega);have Kr:Hid (b=false->flg E k=true->jQ G (E.set k true) i/\∀o (h:o < L.length),o < j+1->wd G L[o].toNat≠0->BL G (E.set k true) (wd G L[o].toNat)):=y5 λK z=>by
    rw[mQ z];refine⟨(u.out K).1,λo h D V=>?_⟩;rcases kq8 o j with h4|h4
    .exact (u.out K).2 o h h4 V
    have:o=j:=(by omega);subst this;rw[Eq.out];have:=Ku.out;rwa [mQ z] at this
   have X:Hid (mu (E.set k true)+(if flg E k=true then 0 else 1)=mu E):=y5 (by
    cases z:flg E k with
    | true=>rw[mQ z];rfl
    | false=>exact Em H z)
   clear Kc Ka ek ix hv H;go_wp2_with fail;refine HA.out.mono ?_;rintro e w4 ⟨rfl,H⟩;have Ka:=ag l.out H (kqa _);have c0:=(Ka.cellAt k (by omega)).trans (jG E k (by rw[R.out];exact Y))
   change w4.cell? ⟨w.heap.size,k,none⟩=some (.bool (flg E k)) at c0
   have f0:=Ka.frozenAt k;have J:=(Ka.stored k (.bool true)).1;rw[<-nJ] at J;obtain⟨U,Kc⟩:=yq0 J ((s.out.trans (H.mono hz)).setCell (p:=⟨w.heap.size,k,none⟩) (kqa _) (.bool true));have Ki:=ag HW.out H (kqa _);have Kh:=y5 (ar Ki (p:=⟨w.heap.size,k,none⟩) (bI Ki (kjq _)).symm (.bool true));clear H Ka J Ki;cases b
   .cases z:flg E k
    .rw[z] at c0 X;have H:Hid (muF (E.set k true) true<=mu Gq):=y5 (by
      have M:=B.out;have D:=X.out;unfold muF at M |-;rw[if_neg (by decide)] at M D;rw[if_pos rfl];omega)
     clear z;go_wp2;go_roundw;exact⟨j+1,true,E.set k true,by omega,rfl,by go_num,Ke,S,(λh=>by cases h),H,U.out,Kc.out,Kh⟩;simp[intOf];omega
    rw[z] at c0 X;have H:Hid (muF (E.set k true) false<=mu Gq):=y5 (by rw[mQ z];exact B.out);have Ka:=y5 (Kr.out rfl z);clear z;go_wp2;go_roundw;exact⟨j+1,false,E.set k true,by omega,rfl,by go_num,Ke,S,λ_=>Ka.out,H,U.out,Kc.out,Kh⟩;simp[intOf];omega
   have H:Hid (muF (E.set k true) true<=mu Gq):=y5 (by
    have M:=B.out;have D:=X.out;unfold muF at M |-;rw[if_pos rfl] at M |-;omega)
   go_wp2;go_roundw;exact⟨j+1,true,E.set k true,by omega,rfl,by go_num,Ke,S,(λh=>by cases h),H,U.out,Kc.out,Kh⟩;simp[intOf];omega
  have H:j=L.length:=(by omega);have v:Hid (b=false->jQ G E (i+1)):=y5 λK=>Kt.out E (λo h D=>(u.out K).2 o h (by omega) D) (u.out K).1;have hjd:decide ((j:Int)<(L.length:Int))=false:=(by rw[kqb];omega);have hjd2:decide (j<L.length)=false:=by rw[kqb];exact Kb
  obtain⟨l,s⟩:=yq0 f y;clear H Kb hj f y N;go_wp2;go_roundw;exact⟨i+1,b,E,by omega,rfl,by go_num,Q,I,v,B,l.out,s.out⟩;simp[intOf];omega
 have W:i=m:=(by omega);have e:Hid (b=false->jQ G E m):=by rw[<-W];exact u
 have Ll:decide ((i:Int)<(m:Int))=false:=(by rw[kqb];omega);have Lm:decide (i<m)=false:=by rw[kqb];exact C
 obtain⟨l,s⟩:=yq0 f y;clear W C O f y;go_wp2;go_roundg (mu Gq+1)
 case rel=>exact⟨E,b,rfl,Q,I,e,(by have:=B.out;show muF E b<mu Gq+1;omega),l.out,s.out⟩
 case measure=>exact Kx.out
noncomputable def wtP (G:List Nat) (k:Nat):List En:=(lD (seenL G) ((aa G).take k)).map (tp G (seenL G))
theorem Hn(a:aK G=0):wtP G (aa G).length=aO G:=by unfold wtP aO;rw[if_pos a,kzb]
theorem Ey(a:k<(aa G).length):wtP G (k+1)=wtP G k++(if dK (seenL G) (aa G)[k]=true then [] else [tp G (seenL G) (aa G)[k]]):=by
 unfold wtP lD;rw[kqi a,kxa,kjf];congr 1;by_cases h:dK (seenL G) (aa G)[k]=true
 .rw[if_pos h,kk5 (by simp[h])];rfl
 rw[if_neg h,kju (by simpa using h)];rfl
theorem wt_at(i:aK G=0)(C:k<(aa G).length):∃a K T S V:Nat,(aa G)[k].at_=(a:Int)/\(aa G)[k].kind=(K:Int)/\(aa G)[k].typ=(T:Int)/\(aa G)[k].size=(S:Int)/\a<G.length/\K<256/\T<128/\S<65536 /\
 K+mE (dH G (aa G)[k])*256+T*512+S*65536+jt (K+mE (dH G (aa G)[k])*256+T*512+S*65536)%4294967296*4294967296=V /\
 (dK (seenL G) (aa G)[k]=true->V=wd G a)/\(dK (seenL G) (aa G)[k]=false->V≠wd G a/\tp G (seenL G) (aa G)[k]=⟨(a:Int),V⟩):=by
 obtain⟨A,-,-⟩:=aL i;obtain⟨-,l,r,-,n⟩:=ax A;rw[<-n] at r;obtain⟨a,z,-,-,f,o,-⟩:=bN _ _ r (by omega) k C;rw[z];have c:=o;unfold stands aD at c;simp only[kqs,kqw] at c;obtain⟨⟨d,p⟩,-⟩:=c;obtain⟨s,t,u,v,w,x,b7⟩:=qS d;have y:aq (wd G a)={ aq (wd G a) with mark:=(bkAt G a).mark }:=rfl;have q:∀m:Bool,(aq (wd G a)).kind.toNat+mE m*256+(aq (wd G a)).typ.toNat*512+(aq (wd G a)).size.toNat*65536+jt ((aq (wd G a)).kind.toNat+mE m*256+(aq (wd G a)).typ.toNat*512+(aq (wd G a)).size.toNat*65536)%4294967296*4294967296=cQ { aq (wd G a) with mark:=m }:=λm=>rfl;refine⟨a,(aq (wd G a)).kind.toNat,(aq (wd G a)).typ.toNat,(aq (wd G a)).size.toNat,_,rfl,(kx8 v).symm,(kx8 w).symm,(kx8 x).symm,f,s,t,u,rfl,λb=>?_,λb=>?_⟩
 .unfold dK at b;rw[kqw] at b;have j:dH G (bkAt G a)=(bkAt G a).mark:=b.symm;rw[j,q,<-y];exact p
 unfold dK at b;rw[kqc] at b;have j:(seenL G)[(bkAt G a).at_.toNat]?.getD false=dH G (bkAt G a):=rfl;rw[j] at b;have hk1:(aq (wd G a)).kind=1:=by
  cases h:dH G (bkAt G a) with
  | true=>exact (rk i ((dV f).1 h)).1.2.2.2.2.1
  | false =>
   have D:(bkAt G a).mark=true:=by
    cases e:(bkAt G a).mark with
    | true=>rfl
    | false=>rw[h,e] at b;exact absurd rfl b
   have B:=(bC _).1 d;rcases B.2 with g|g
   .exact g.1
   have m:(aq (wd G a)).mark=false:=g.2.2.1;have e:(aq (wd G a)).mark=true:=D;rw[m] at e;cases e
 have h:jk { aq (wd G a) with mark:=dH G (bkAt G a) }=true:=by
  rw[bC] at d |-;refine⟨d.1,.inl ?_⟩;rcases d.2 with g|g
  .exact g
  have:(aq (wd G a)).kind=2:=g.1;omega
 rw[q];refine⟨λe=>?_,?_⟩
 .have g:=kK h;rw[e] at g;have e:=congrArg Bk.mark g;exact b e
 unfold tp gz il jr;rw[j,af,kqf,if_pos (by unfold aD;rw[d,p];simp),if_pos h]
theorem xF(A:Option Addr)(G:List Nat)(c n:Nat)(w:World)(g:G.length=n)(a:aK G=0)(o:RdW w w.heap.size A G)(l:∀x∈G,x<2^64):
 Calls prog 190 #[.slice A n c] w λe b=>ey w.heap.size 0 (aO G) e b/\Below w.heap.size w b:=by
 obtain⟨j,-,-⟩:=aL a;have hb:=dA G (ax j).1;rw[g] at hb;obtain⟨Kb,J⟩:=yq0 (fR A G c n w g j o l) (λW (h:RdW W W.heap.size A G)=>i8 A G c n W g j h l);obtain⟨m,i⟩:=xq ((aa G).length);have hml:m<=1024:=by rw[<-i];exact dI G
 obtain⟨Kd,Kk,Ki,L⟩:=yq2 (λLB d W (h:RdW W W.heap.size A G) (b:RdB W W.heap.size LB (aa G))=>Ca A LB G c n d m W g a i h l b) (λk (hk:k<(aa G).length)=>wt_at a hk) (λk (hk:k<(aa G).length)=>Ey hk) (Hn a);have Q:Hid (wtP G 0=[]):=y5 (by simp[wtP,lD]);have Kj:Hid (∀W r,r<n->RdW W W.heap.size A G->∃b f,A=some ⟨b,f,none⟩/\b<W.heap.size/\W.cell? ⟨b,f+r,none⟩=some (.int .u64 (wd G r:Int))):=y5 λW r hr2 h=>by
  obtain⟨b,f,e,U,d⟩:=RdW.at_ h (show r<G.length by omega);rw[<-bY] at d;exact⟨b,f,e,U,d⟩
 rw[i] at J;obtain⟨N,Kf,HR⟩:=yq1 i g o;clear o l j i g a;obtain⟨i0,h,a,d,g⟩:=kzh bE;obtain⟨HI,Kl,Km,Kn⟩:=yq2 h a d g;clear h a d g;go_enter func190,ntmps190;go_wp2_with fail;refine Kb.out.mono ?_;rintro e w1 ⟨rfl,a⟩;have H:=y5 a;have O:=yq9 HR a;clear a;go_wp2_with fail;refine (J.out w1 O.out).mono ?_;rintro e w2 ⟨⟨LB,dL,rfl,d,-⟩,a⟩;have I:=yq7 H a;have P:=yq9 O a;have M:=y5 d;clear a d;go_wp2_with fail;refine (Kd.out LB dL w2 P.out M.out).mono ?_;rintro e w3 ⟨⟨g,cg,rfl,a⟩,d⟩;have D:=yq7 I d;have Kh:=yq9 P d;have Ke:=yq9 M d;have Kc:=y5 a;have Kp:=(a.lt g rfl).2;clear d a;go_wp2_with fail;go_loopw [9,10] (λd a wr=>∃k:Nat,k<=m/\a=.int .i64 k/\wr.ownsRow w3.heap.size 89 2 d (wtP G k).length ((wtP G k).flatMap En.cells)/\(wtP G k).length<=k/\Below w3.heap.size w3 wr) (λ_ i _=>m-(intOf i).toNat)
 case atStart=>exact⟨0,kqv _,rfl,by rw[Q.out];exact kq3 _ _ _ _,by rw[Q.out];exact kqa _,kqe _ _⟩
 obtain⟨k,hk,rfl,h,Z,C⟩:=hrel;have hz:=C.size;by_cases Eq:k<m
 .have q:k<(aa G).length:=by rw[N.out];exact Eq
  obtain⟨b,f,rfl,U,q0,q1,q2,q3,q4,q5⟩:=RdB.at_ (Rd.below Ke.out C) q;obtain⟨a,K,T,S,V,t,u,X,e4,e5,e6,e7,e8,r,z,B⟩:=Kk.out k q;rw[t] at q0;rw[e4] at q1;rw[u] at q2;rw[X] at q3;rw[Kf.out] at e5;have i:=Kc.out.cellAt k (by omega);have l:=Ki.out k q;obtain⟨sn,d⟩:=xq (dH G (aa G)[k]);have o:w3.cell? ⟨g,k,none⟩=some (.bool sn):=i.trans (by
   rw[jG _ k (by rw[kzw];exact q),kxk,kqg q,kzs,d];rfl)
  have p0:=(C.cell (p:=⟨g,k,none⟩) Kp).trans o;rw[d] at r;have E:=y5 (λW=>lh K T S sn W e6 e7 e8);rw[r] at E;obtain⟨bA,oA,j,R,v0⟩:=Kj.out wr a e5 (Kh.out.up C hz);subst j;obtain⟨v,W⟩:=xq (wd G a);rw[W] at v0 z B;have hk0:(0:Int)<=(k:Int):=(by omega);have hk1:(k:Int)<(m:Int):=(by omega);have ha0:(0:Int)<=(a:Int):=(by omega);have ha1:(a:Int)<(n:Int):=(by omega);have j:b<wr.heap.size:=(by omega);have Y:g<wr.heap.size:=(by omega);obtain⟨y,F⟩:=yq0 h C;clear h C i o d W t u X e4 r e6 e7 e8 q4 q5;cases i:dK (seenL G) (aa G)[k]
  .obtain ⟨f1,d⟩:=B i;rw[i] at l;rw[if_neg (by decide),d] at l;have o:=y5 (show (wtP G (k+1)).flatMap En.cells=(wtP G k).flatMap En.cells++[.int .i64 (a:Int),.int .u64 (V:Int)]/\(wtP G (k+1)).length=(wtP G k).length+1 by rw[l,kzv,kqu];exact⟨rfl,rfl⟩);have Ko:((V:Int) != (v:Int))=true:=(by rw[kqx];omega);have hVn:(V != v)=true:=by rw[kqx];exact f1
   clear i z B l f1 d;go_wp2_with fail
   first
    | (go_region_held3 (λX:World=>X.cell? ⟨b,f+k*6+1,none⟩=some (.int .i64 (S:Int))/\X.cell? ⟨b,f+k*6+2,none⟩=some (.int .i64 (K:Int))/\X.cell? ⟨b,f+k*6+3,none⟩=some (.int .i64 (T:Int))/\X.cell? ⟨g,k,none⟩=some (.bool sn)) (go_keep)
     (first | (go_at_call 90;refine (E.out _).mono ?_;rintro e w5 ⟨rfl,d⟩;have m1:=(d.cell (p:=⟨b,f+k*6+1,none⟩) j).trans q1;have m2:=(d.cell (p:=⟨b,f+k*6+2,none⟩) j).trans q2;have m3:=(d.cell (p:=⟨b,f+k*6+3,none⟩) j).trans q3;have m4:=(d.cell (p:=⟨g,k,none⟩) Y).trans p0;have m0:=(d.cell (p:=⟨b,f+k*6,none⟩) j).trans q0;have mv:=(d.cell (p:=⟨bA,oA+a,none⟩) R).trans v0;have u:=y5 (ag y.out.drew d (kqa _));have t:=y5 (F.out.drew.trans (d.mono F.out.size));clear d)))
    | fail
   have Kq:=t.out.size;go_wp2_with (at_builtin;refine kq7 _ rfl _ _ 26 rfl w3.heap.size 89 i0 _ 2 16 underlying26 HI.out Kl.out Km.out Kn.out rfl (by decide) _ _ _ rfl (u.out.alloc _) ⟨_,0,none⟩ 1 1 [.int .i64 (a:Int),.int .u64 (V:Int)] rfl rfl (bc _ _ _) (by simp[Value.oneCell']) (by unfold maxLen;omega) (by omega) (by simp;omega) ?_;intro v1 w6 r W _;have Ka:=y5 (ay t.out Kq u.out W);have Kg:=y5 r;clear r W);go_roundw;exact⟨k+1,by omega,by go_num,by rw[o.out.1,o.out.2];exact Kg.out,by rw[o.out.2];omega,Ka.out⟩;simp[intOf];omega
  have f1:=z i;rw[i,if_pos rfl,kzf] at l;have o:=y5 l;subst f1;have Ko:((V:Int) != (V:Int))=false:=by rw[kqt]
  clear i z B l;go_wp2_with fail
  first
   | (go_region_held3 (λX:World=>X.cell? ⟨b,f+k*6+1,none⟩=some (.int .i64 (S:Int))/\X.cell? ⟨b,f+k*6+2,none⟩=some (.int .i64 (K:Int))/\X.cell? ⟨b,f+k*6+3,none⟩=some (.int .i64 (T:Int))/\X.cell? ⟨g,k,none⟩=some (.bool sn)) (go_keep)
    (first | (go_at_call 90;refine (E.out _).mono ?_;rintro e w5 ⟨rfl,d⟩;have m1:=(d.cell (p:=⟨b,f+k*6+1,none⟩) j).trans q1;have m2:=(d.cell (p:=⟨b,f+k*6+2,none⟩) j).trans q2;have m3:=(d.cell (p:=⟨b,f+k*6+3,none⟩) j).trans q3;have m4:=(d.cell (p:=⟨g,k,none⟩) Y).trans p0;have m0:=(d.cell (p:=⟨b,f+k*6,none⟩) j).trans q0;have mv:=(d.cell (p:=⟨bA,oA+a,none⟩) R).trans v0;have u:=y5 (ag y.out.drew d (kqa _));have t:=y5 (F.out.drew.trans (d.mono F.out.size));clear d)))
   | fail
  go_wp2;go_roundw;exact⟨k+1,by omega,by go_num,by rw[o.out];exact u.out,by rw[o.out];omega,t.out⟩;simp[intOf];omega
 have i:k=m:=(by omega);have a:wtP G k=aO G:=by rw[i,<-N.out];exact L.out
 rw[a] at h Z;obtain⟨d,e,rfl⟩:=aw h;obtain⟨y,F⟩:=yq0 h C;have hkd:decide ((k:Int)<(m:Int))=false:=(by rw[kqb];omega);have hkn:decide (k<m)=false:=by rw[kqb];exact Eq
 clear i a h C Z;go_wp2;go_ret2;exact⟨⟨d,e,rfl,ab y.out D.out.size⟩,D.out.trans (F.out.mono D.out.size)⟩
end Go.Proofs.YtpcajamacpbjcaaGreat
