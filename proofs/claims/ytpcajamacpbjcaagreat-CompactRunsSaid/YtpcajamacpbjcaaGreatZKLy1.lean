import Derived.Test.YtpcajamacpbjcaaGreatZKR19
set_option maxHeartbeats 16000000
set_option maxRecDepth 100000
set_option linter.all false
namespace Go.Proofs.YtpcajamacpbjcaaGreat
variable {x:Int}{O:List Bk}{ad:List Int}{F G l:List Nat}{H a b g k n r:Nat}{P:Program}{e t:TypeId}{x0 x1 x2 x3 x4:Value}{w w':World}
open Go.Proofs.Tryz
def dr (ad:List Int) (x:Int):Nat->Bool
 | 0=>false
 | i+1=>dr ad x i||((ad[i]?.getD 0)/8==x/8)
def bT (ad:List Int) (x:Int):Nat->Bool
 | 0=>false
 | i+1=>bT ad x i||((ad[i]?.getD 0)==x)
def Cy (ad:List Int):Nat->Bool
 | 0=>true
 | k+1=>Cy ad k&&(decide (0<=ad[k]?.getD 0)&&decide (ad[k]?.getD 0<2048) && !bT ad (ad[k]?.getD 0) k)
def Di (ad:List Int):Nat->Nat
 | 0=>0
 | k+1=>Di ad k+if dr ad (ad[k]?.getD 0) k then 0 else 1
theorem JM(h:Cy ad n=true)(hk:k<=n):Cy ad k=true:=by
 induction n with
 | zero =>
  have:k=0:=(by omega);subst this;exact h
 | succ n b =>
  rcases kq8 k (n+1) with a|a
  .simp only[Cy,kqs] at h;exact b h.1 (by omega)
  have:k=n+1:=(by omega);subst this;exact h
def JJ (ad:List Int):Int:=if ad.length=0 then 0 else 3*ad.length+2
def E9 (ad:List Int):Int:=if ad.length=0 then 0 else (2*ad.length+7)/8+Di ad ad.length+2
def IB (ad:List Int):Int:=if ad.length=0 then 0 else 4
def AI (ad:List Int):Int:=if 32<ad.length then 4 else if Cy ad ad.length then 0 else 2
def ofS (ad:List Int):Int:=if AI ad=0 then JJ ad else 0
def ofF (ad:List Int):Int:=if AI ad=0 then E9 ad else 0
def ofN (ad:List Int):Int:=if AI ad=0 then IB ad else 0
theorem qx{j:Nat}(h:bT ad x j=true)(hk:j<=k):bT ad x k=true:=by
 induction k with
 | zero =>
  have:j=0:=(by omega);subst this;exact h
 | succ k b =>
  rcases kq8 j (k+1) with a|a
  .simp[bT,b (by omega)]
  have:j=k+1:=(by omega);subst this;exact h
open Go.RowKit
structure OfRel (H:Nat) (ad:List Int) (k:Nat) (w wr:World):Prop where
 below:Below H w wr
 res:wr.rowIs H 61 3 (λ_=>.int .i64 0)
 words:wr.rowIs (H+1) 155 2048 (λi=>.bool (bT ad (i:Int) k))
 lines:wr.rowIs (H+1+1) 156 256 (λi=>.bool (dr ad (8*(i:Int)) k))
 sev:wr.rowIs (H+1+1+1) 3 1 (λ_=>.int .i64 (Di ad k:Nat))
def Gc:List (List Int)->Int
 | []=>0
 | c::cs=>if AI c=0 then Gc cs else AI c
def tot (f:List Int->Int):List (List Int)->Int
 | []=>0
 | c::cs=>f c+tot f cs
structure SumRel (H:Nat) (L:List (List Int)) (k:Nat) (w wr:World):Prop where
 below:Below H w wr
 err:Gc (L.take k)=0
 res:Bx wr H 61 #[.int .i64 0,.int .i64 0,.int .i64 0]
 out:Bx wr (H+1) 61 #[.int .i64 (tot ofS (L.take k)),.int .i64 (tot ofF (L.take k)),.int .i64 (tot ofN (L.take k))]
def JF (G:List Nat) (t H:Nat) (e:Ending) (w':World):Prop:=∃(B:Option Addr) (m d:Nat) (L:List Ty),e=.returned (.tuple #[.slice B m d,.int .i64 (if iG G t=true then 0 else 50)])/\(iG G t=true->m=L.length/\vm w' H (.slice B m d) L/\L.map Ty.l=iu G t 8)
theorem qB{t:Nat}{B:Option Addr}{m d:Nat}(h:iG G t=false):JF G t H (.returned (.tuple #[.slice B m d,.int .i64 50])) w':=⟨B,m,d,[],by rw[h];rfl,λa=>by rw[h] at a;cases a⟩
theorem ET(A:Option Addr)(G:List Nat)(c n t:Nat)(w:World)(g:G.length=n)(a:am (n:Int)=true)(ht:t<=8)(d:RdW w w.heap.size A G)(b:∀x∈G,x<2^64):
 Calls prog 69 #[.slice A n c,.int .i64 (t:Int)] w λe f=>JF G t w.heap.size e f/\Below w.heap.size w f:=by
 subst g;have hb:=(ae _).1 a;obtain⟨HR,H⟩:=yq0 d (λW=>aJ A G.length c W (by omega));rw[aM a] at H;have I:Hid (∀k,wd G k<18446744073709551616):=y5 (fH b);have d0:decide ((t:Int)<0)=false:=(by rw[kqb];omega);have d8:decide ((8:Int)<(t:Int))=false:=(by rw[kqb];omega);have d8n:decide (8<t)=false:=(by rw[kqb];omega);clear d b a;obtain⟨i2,f,a,b,d⟩:=kzh zi;obtain⟨HJ,V,Y,Z⟩:=yq2 f a b d;clear f a b d;go_enter func69,ntmps69;go_wp2_with fail;refine (H.out _).mono ?_;rintro e w1 ⟨rfl,rfl⟩;go_wp2_with fail;go_loopw [7,24] (λv i wr=>∃(k:Nat) (L:List Ty),k<=8/\i=.int .i64 k/\Hid (xY G t k)/\Hid (L.map Ty.l=iu G t k)/\L.length<=k/\Hid (vm wr w.heap.size v L)/\Below w.heap.size w wr) (λ_ i _=>8-(intOf i).toNat)
 case atStart=>exact⟨0,[],kqv _,rfl,y5 (λi h=>absurd h (by omega)),y5 (by simp[iu]),kqa _,y5 ⟨kq3 _ _ _ _,λx g=>absurd g (by simp)⟩,kqe _ _⟩
 obtain⟨k,L,hk,rfl,J,D,hLk,m,M⟩:=hrel;have hz:=M.size;by_cases Ka:k<8
 .obtain ⟨b,f,rfl,hbb,h0⟩:=RdW.at_ (Rd.below HR.out M) (show 96+2*k<G.length by omega);obtain⟨b',off',e',-,Q⟩:=RdW.at_ (Rd.below HR.out M) (show 96+2*k+1<G.length by omega);cases e';rw[<-bY] at h0 Q;obtain⟨a,o,i⟩:=yq1 (λW=>vk (wd G (96+2*k)) (wd G (96+2*k+1)) W (I.out _) (I.out _)) (λh=>pu J.out h) (λh=>rP (G:=G) (t:=t) Ka h);have d:Hid (Dr G t k=if k<t then b8 (wd G (96+2*k)) (wd G (96+2*k+1)) else wd G (96+2*k)==0&&wd G (96+2*k+1)==0):=y5 rfl;obtain⟨j,z⟩:=yq0 (λh=>zS (G:=G) (t:=t) (k:=k) h) (λh=>BS (G:=G) (t:=t) (k:=k) h);have i1:IntKind.i64.wrap ((2:Int)*(k:Int))=2*(k:Int):=kqo _ (by omega);have i2':IntKind.i64.wrap ((96:Int)+2*(k:Int))=((96+2*k:Nat):Int):=by rw[kqo _ (by omega)];omega
  have i3:IntKind.i64.wrap (((96+2*k:Nat):Int)+1)=((96+2*k+1:Nat):Int):=by rw[kqo _ (by omega)];omega
  have j1:((96+2*k:Nat):Int)<(G.length:Int):=(by omega);have j2:(0:Int)<=((96+2*k:Nat):Int):=(by omega);have j3:((96+2*k+1:Nat):Int)<(G.length:Int):=(by omega);have j4:(0:Int)<=((96+2*k+1:Nat):Int):=(by omega);have hk1:(k:Int)<8:=(by omega);obtain⟨p,l⟩:=xq (96+2*k);rw[l] at h0 Q a d j i2' i3 j1 j2 j3 j4;obtain⟨q,r⟩:=xq (p+1);rw[r] at Q a d j i3 j3 j4;obtain⟨x,g⟩:=xq (wd G p);obtain⟨y,R⟩:=xq (wd G q);rw[g] at h0 a d j;rw[R] at Q a d j;have F:=y5 M;clear g R l r;by_cases r:k<t
  .have d2:decide ((t:Int)<=(k:Int))=false:=(by rw[kqb];omega);have d2n:decide (t<=k)=false:=by rw[kqb];omega
   cases s:b8 x y
   .have C:=y5 (i.out (by rw[d.out,if_pos r,s]));have v:ff x y=50:=by unfold ff;rw[s];rfl
    have g:bB x y=[]:=by unfold bB;rw[s];rfl
    unfold mq at a;rw[v,g] at a;clear s v g d i o j z r;go_wp2_with fail
    go_region_held3 (λX:World=>X.cell? ⟨b,f+p,none⟩=some (.int .u64 (x:Int))/\X.cell? ⟨b,f+q,none⟩=some (.int .u64 (y:Int))) (go_keep) (fail)
    go_wp2_with fail;refine (a.out _).mono ?_;rintro e w3 ⟨⟨O,P,rfl,-⟩,g⟩;have u:=F.out.drew.trans (g.mono hz);clear g;go_wp2;go_ret2;exact⟨qB C.out,u⟩
   obtain⟨C,B⟩:=yq0 (o.out (by rw[d.out,if_pos r,s])) (j.out r);have v:ff x y=0:=by unfold ff;rw[s];rfl
   unfold mq at a;rw[v] at a;obtain⟨l,E⟩:=xq (bB x y);rw[E] at a B;clear s v E d i o j z r;go_wp2_with fail
   go_region_held3 (λX:World=>X.cell? ⟨b,f+p,none⟩=some (.int .u64 (x:Int))/\X.cell? ⟨b,f+q,none⟩=some (.int .u64 (y:Int))) (go_keep) (fail)
   go_wp2_with fail;refine (a.out _).mono ?_;rintro e w3 ⟨⟨O,P,rfl,s⟩,g⟩;have u:=F.out.drew.trans (g.mono hz);have N:=u.size;have v:=ag (show wr.drew.ownsRow _ _ _ _ _ _ from m.out.1) g (kqa _);have U:Hid (∀y∈L,w3.ownsRow w.heap.size 5 1 (.slice y.A y.l.length y.c) y.l.length (y.l.flatMap bq)):=y5 λy R=>ag (show wr.drew.ownsRow _ _ _ _ _ _ from m.out.2 y R) g (kqa _);obtain⟨Eq,K,S⟩:=yq1 (ab s (show w.heap.size<=wr.drew.heap.size from hz)) v u;clear g s u m;go_wp2_with (at_builtin;refine kq7 _ rfl _ _ 69 rfl w.heap.size 113 i2 _ 1 24 underlying69 HJ.out V.out Y.out Z.out rfl (by decide) _ _ _ rfl (v.alloc _) ⟨_,0,none⟩ 1 1 [.slice O l.length P] rfl rfl (bc _ _ _) (by simp[Value.oneCell']) (by unfold maxLen;omega) (by omega) (cr N) ?_;intro v1 w6 s E _;have T:=y5 (ay S.out N v E);have W:=y5 (sK (x:=⟨O,P,l⟩) U.out Eq.out (K.out.alloc _) (λh=>h.alloc _) E s);clear s E);go_roundw;exact⟨k+1,L++[⟨O,P,l⟩],by omega,by go_num,C,y5 (by rw[kjf,D.out,B.out];rfl),by simp;omega,W,T.out⟩;simp[intOf];omega
  have d2:decide ((t:Int)<=(k:Int))=true:=(by rw[kqh];omega);have d2n:decide (t<=k)=true:=(by rw[kqh];omega);have B:=y5 (z.out (by omega));have g:Hid (Dr G t k=(x==0&&y==0)):=y5 (by rw[d.out,if_neg r]);clear a d j z r;by_cases a:x=0
  .subst a;by_cases d:y=0
   .subst d;have C:=y5 (o.out (by rw[g.out];rfl));clear i o g;go_wp2_with fail
    go_region_held3 (λX:World=>X.cell? ⟨b,f+p,none⟩=some (.int .u64 ((0:Nat):Int))/\X.cell? ⟨b,f+q,none⟩=some (.int .u64 ((0:Nat):Int))) (go_keep) (fail)
    go_wp2_with fail;have h:Hid (vm wr.drew w.heap.size u7 L):=y5 ⟨m.out.1,m.out.2⟩;go_roundw;exact⟨k+1,L,by omega,by go_num,C,y5 (by rw[D.out,B.out]),by omega,h,F.out.drew⟩;simp[intOf];omega
   have C:=y5 (i.out (by rw[g.out,show (y==0)=false by rw[kqc];exact d];rfl));have j:((y:Int) != 0)=true:=(by rw[kqx];omega);have h:(y != 0)=true:=(by rw[kqx];omega);clear i o g d;go_wp2_with fail
   go_region_held3 (λX:World=>X.cell? ⟨b,f+p,none⟩=some (.int .u64 ((0:Nat):Int))/\X.cell? ⟨b,f+q,none⟩=some (.int .u64 (y:Int))) (go_keep) (fail)
   go_wp2;go_ret2;exact⟨qB C.out,F.out.drew⟩
  have C:=y5 (i.out (by rw[g.out,show (x==0)=false by rw[kqc];exact a];rfl));have j:((x:Int) != 0)=true:=(by rw[kqx];omega);have h:(x != 0)=true:=(by rw[kqx];omega);clear i o g a;go_wp2_with fail
  go_region_held3 (λX:World=>X.cell? ⟨b,f+p,none⟩=some (.int .u64 (x:Int))/\X.cell? ⟨b,f+q,none⟩=some (.int .u64 (y:Int))) (go_keep) (fail)
  go_wp2;go_ret2;exact⟨qB C.out,F.out.drew⟩
 obtain rfl:k=8:=(by omega);have b:Hid (iG G t=true):=y5 ((jz G t).2 J.out);obtain⟨a,d,rfl⟩:=aw m.out.1;go_wp2;go_ret2;exact⟨⟨a,L.length,d,L,by rw[b.out];rfl,λ_=>⟨rfl,m.out,D.out⟩⟩,M⟩
def lz (G:List Nat):Int:=if am (G.length:Int)=true then (if xH G=true then 0 else 50) else 8
def mx (G:List Nat):List Bk:=if lz G=0 then (blocks G 128).getD [] else []
def Ae (H:Nat) (G:List Nat) (e:Ending) (w':World):Prop:=∃A c,e=.returned (.tuple #[.slice A (mx G).length c,.int .i64 (lz G)])/\w'.ownsRow H 55 6 (.slice A (mx G).length c) (mx G).length ((mx G).flatMap Bk.cells)
theorem rM{r:Int}(h:lz G=r)(a:r≠0):Ae H G (.returned (.tuple #[.slice none 0 0,.int .i64 r])) w':=by
 have e:mx G=[]:=by unfold mx;rw[if_neg (by rw[h];exact a)]
 exact⟨none,0,by rw[e,h];rfl,by rw[e];exact kq3 _ _ _ _⟩
theorem IC(A:Option Addr)(G:List Nat)(c n:Nat)(w:World)(f:G.length=n)(t:n<=9223372036854775807)(b:RdW w w.heap.size A G)(a:∀x∈G,x<2^64):
 Calls prog 26 #[.slice A n c] w λe d=>Ae w.heap.size G e d/\Below w.heap.size w d:=by
 subst f;have s:=y5 (Ac A G c G.length 128 w rfl t b a);unfold uX at s;clear b a;by_cases d:cp G 128=0
 .have g:am (G.length:Int)=true:=by
   cases g:am (G.length:Int) with
   | true=>rfl
   | false=>rw[f8 g] at d;cases d
  have M:=(ae _).1 g;have a:eU G.length 128=false:=by
   cases b:eU G.length 128 with
   | false=>rfl
   | true=>rw[jy g b] at d;cases d
  have N:∃l,blocks G 128=some l:=by
   cases o:blocks G 128 with
   | none=>rw[ft g a (by simpa using o)] at d;cases d
   | some l=>exact⟨l,rfl⟩
  obtain⟨l,o⟩:=N;have b:=(bv (by omega) _ _ o (by omega) (by omega) (by omega)).1;have j:aS G 128=l:=by unfold aS;rw[if_pos d];simp[o]
  rw[d,j] at s;have B:Hid (lz G=if kE l=true then 0 else 50):=y5 (by unfold lz;rw[if_pos g,iT o]);have K:Hid (kE l=true->mx G=l/\lz G=0):=y5 λh=>by
   have e:lz G=0:=by rw[B.out,h];rfl
   exact⟨by unfold mx;rw[if_pos e,o];rfl,e⟩
  have hl24:l.length<=1024:=(by omega);obtain⟨F,I⟩:=yq0 (λk O h=>rN (l:=l) (k:=k) O h) (oC l);clear d g M a o j b t;go_enter func26,ntmps26;go_wp2_with fail;refine s.out.mono ?_;rintro e T ⟨⟨P,Q,rfl,b⟩,p⟩;obtain⟨z,v,u⟩:=yq1 (show RdB _ _ _ _ from Rd.of_own b) b p;clear b p;go_wp2_with fail;go_loopw [17] (λi wr=>∃k:Nat,k<=l.length/\i=.int .i64 k/\wr=T/\Hid (oN l k)) (λi _=>l.length-(intOf i).toNat)
  case atStart=>exact⟨0,kqv _,rfl,rfl,y5 (pG l)⟩
  obtain⟨k,O,rfl,rfl,J⟩:=hrel;by_cases i:k<l.length
  .obtain⟨q,H⟩:=yq0 (λh=>lR J.out h) (F.out k i);by_cases r:k=0
   .subst r;have h:Hid (oN l (0+1)):=y5 (q.out rfl);go_wp2;go_roundw;exact⟨0+1,by omega,by go_num,trivial,h⟩;simp[intOf];omega
   obtain⟨b,off,rfl,M,-,-,W,-⟩:=RdB.at_ z.out i;obtain⟨b',off',U,-,-,-,S,-⟩:=RdB.at_ z.out (show k-1<l.length by omega);cases U;have f:oH l k=((l[k-1].kind==2)&&(l[k].kind==2)):=by unfold oH;rw[bG l k i,bG l (k-1) (by omega),show (k==0)=false by rw[kqc];omega];rfl
   obtain⟨x,L⟩:=xq (l[k].kind);obtain⟨y,R⟩:=xq (l[k-1].kind);rw[L] at W f;rw[R] at S f;have V:IntKind.i64.wrap ((k:Int)-1)=((k-1:Nat):Int):=by rw[kqo _ (by omega)];omega
   have hki:(k:Int)<(l.length:Int):=(by omega);have hk0':(0:Int)<=(k:Int):=(by omega);have D:((k-1:Nat):Int)<(l.length:Int):=(by omega);have C:(0:Int)<=((k-1:Nat):Int):=(by omega);have d0:decide ((0:Int)<(k:Int))=true:=(by rw[kqh];omega);have d0n:decide (0<k)=true:=(by rw[kqh];omega);obtain⟨m,t⟩:=xq (k-1);rw[t] at V D C S;have E:=y5 f;clear L R J t f r;by_cases f:x=2
   .subst f;by_cases r:y=2
    .subst r;have h:=y5 (H.out (by rw[E.out];rfl));have L:Hid (lz G=50):=y5 (by rw[B.out,h.out];rfl);go_wp2;go_ret2;exact⟨rM L.out (by decide),u.out⟩
    have L:(y==2)=false:=by rw[kqc];exact r
    have h:Hid (oN l (k+1)):=y5 (q.out (by rw[E.out,L];rfl));clear r;go_wp2;go_roundw;exact⟨k+1,by omega,by go_num,trivial,h⟩;simp[intOf];omega
   have L:(x==2)=false:=by rw[kqc];exact f
   have h:Hid (oN l (k+1)):=y5 (q.out (by rw[E.out,L,kx6]));clear f;go_wp2;go_roundw;exact⟨k+1,by omega,by go_num,trivial,h⟩;simp[intOf];omega
  have b:k=l.length:=(by omega);have hend:decide ((k:Int)<(l.length:Int))=false:=(by rw[kqb];omega);have hendn:decide (k<l.length)=false:=by rw[kqb];exact i
  have f:=y5 (K.out (I.out.2 (b ▸ J.out)));clear b i O;go_wp2;go_ret2;exact⟨⟨P,Q,by rw[f.out.1,f.out.2];rfl,by rw[f.out.1];exact v.out⟩,u.out⟩
 have j:aS G 128=[]:=by unfold aS;rw[if_neg d]
 have h:lz G=cp G 128:=by
  unfold lz;cases g:am (G.length:Int) with
  | false=>rw[f8 g];rfl
  | true =>
   have M:=(ae _).1 g;have a:eU G.length 128=false:=by unfold eU;simp;omega
   cases o:blocks G 128 with
   | none=>rw[nz o,ft g a (by simpa using o)];rfl
   | some l =>exfalso;apply d;simp[cp,g,a,o]
 have B:=y5 h;rw[j] at s;have b:(cp G 128 != 0)=true:=by rw[kqx];exact d
 have f:=y5 d;obtain⟨r,a⟩:=xq (cp G 128);rw[a] at s B b f;clear d j h a t;go_enter func26,ntmps26;go_wp2_with fail;refine s.out.mono ?_;rintro e T ⟨⟨P,Q,rfl,-⟩,p⟩;go_wp2;go_ret2;exact⟨rM B.out f.out,p⟩
theorem wx(A:Option Addr)(G:List Nat)(c n a:Nat)(w:World)(b:G.length=n)(ha:a+8<=n)(hm:n<=2048)(hc:n<=c)(d:RdW w w.heap.size A G):
 Calls prog 157 #[.slice A n c,.int .i64 (a:Int)] w λe f=>e=.returned (.bool (fF G a))/\w=f:=by
 subst b;obtain⟨q,o⟩:=yq0 d (oD G a);obtain⟨b,off,rfl,g,-⟩:=RdW.at_ d (show 0<G.length by omega);have k2:IntKind.i64.wrap ((a:Int)+8)=((a+8:Nat):Int):=by rw[kqo _ (by omega)];omega
 have k3:a+8<=c:=(by omega);have k4:a<=a+8:=(by omega);clear d g;go_enter func157,ntmps157;go_wp2_with fail
 go_loop [13] (λi=>∃k:Nat,k<=8/\i=.int .i64 k/\Hid (px G a k)) (λi=>8-(intOf i).toNat)
 case atStart=>exact⟨0,kqv _,rfl,y5 λi h=>absurd h (by omega)⟩
 obtain⟨k,hk,rfl,p⟩:=hrel;by_cases j:k<8
 .obtain ⟨b',off',r,g,f⟩:=RdW.at_ q.out (show a+k<G.length by omega);cases r;rw[<-bY] at f;have m:Hid (wd G (a+k)=0->px G a (k+1)):=y5 λh i s=>by
   rcases kq8 i k with d|d
   .exact p.out i d
   have:i=k:=(by omega);subst this;exact h
  have l:Hid (wd G (a+k)≠0->fF G a=false):=y5 λh=>by
   cases d:fF G a with
   | false=>rfl
   | true=>exact absurd (o.out.1 d k j) h
  rw[<-kki] at f;obtain⟨x,d⟩:=xq (wd G (a+k));rw[d] at f m l;have hki:(k:Int)<8:=(by omega);have hk0:(0:Int)<=(k:Int):=(by omega);clear d g;by_cases d:x=0
  .have e:=y5 (m.out d);subst d;go_wp2_with fail
   go_round
   case rel=>exact⟨k+1,by omega,by go_num,e⟩
   case measure=>simp[intOf];omega
  have e:=y5 (l.out d);have e1:((x:Int) != 0)=true:=(by rw[kqx];omega);have e1n:(x != 0)=true:=by rw[kqx];exact d
  clear d;go_wp2;go_ret;exact⟨by rw[e.out];rfl,rfl⟩
 have e:Hid (fF G a=true):=y5 (o.out.2 λi s=>p.out i (by omega));obtain rfl:k=8:=(by omega);go_wp2;go_ret;exact⟨by rw[e.out];rfl,rfl⟩
open Go.RowKit Go.Maps
def fI (ad:List Int):Nat->DataW Unit
 | 0=>.map []
 | k+1=>(fI ad k).put (.int .i64 (ad[k]?.getD 0)) (.lit (.bool true))
theorem xg(ad:List Int)(k:Nat):IsMap (fI ad k):=by
 induction k with
 | zero=>exact isMap_empty
 | succ k a=>exact a.put _ _
theorem na(ad:List Int)(x:Int)(k:Nat):(fI ad k).atKey (.int .i64 x) (.lit (.bool false))=.lit (.bool (bT ad x k)):=by
 induction k with
 | zero=>rfl
 | succ k a =>
  simp only[fI,bT];by_cases e:ad[k]?.getD 0=x
  .rw[e,atKey_put_same (xg ad k) (by trivial)];simp
  rw[atKey_put_other (by intro h;injection h with _ h;exact e h.symm),a];have:(ad[k]?.getD 0==x)=false:=by rw[kqc];exact e
  rw[this,kvm]
theorem li{H:Type}(a:P.underlying e=some .bool){v:Value}{z:DataW H × List MemPlace}(h:plainElem P e v=some z):∃c,v=.bool c/\z=(.lit (.bool c),[]):=by
 unfold plainElem at h;rw[a] at h;cases v<;>simp at h
 exact⟨_,rfl,h.symm⟩
theorem jf{H:Type}{k:TypeId}{D:DataW H}(h:w.ownsMap P k (plainElem P e) b n D)(K:Keyed P k)(l:P.underlying t=some (.map k e))(i:P.underlying e=some .bool)(o:(zeroValue e).run P w=.ok (.bool false) w){key:Value}{kl:Lit}(f:keyOf P k key=some kl){c:Bool}(j:D.atKey kl (.lit (.bool false))=.lit (.bool c)):(Instr.lookup t (.map (some b)) key false).run P w=.ok (.bool c) w:=by obtain⟨v,ps,g,m⟩:=h.lookup K l o (plainElem_bool i false) f;obtain⟨c',rfl,a⟩:=li i m;simp only[Prod.mk.injEq] at a;rw[j] at a;obtain⟨d,-⟩:=a;injection d with d;injection d with d;subst d;exact g
theorem nh:Keyed prog 3:=int_keyed underlying3
theorem m9(w:World):(zeroValue 4).run prog w=.ok (.bool false) w:=by kernel_rfl
theorem gU{h:Nat}{k:TypeId}{cs:Array Value}{R:Value->Option (DataW Unit × List MemPlace)}{D:DataW Unit}(c:Bx w h t cs)(d:w.ownsMap P k R b n D):some h≠some b:=by rintro e;injection e with e;subst e;obtain⟨es,clock,a,_⟩:=d;rw[show w.heap[h]? = _ from c] at a;cases a
theorem Bx.c5(h:Bx w g t #[x0,x1,x2,x3,x4]):w.cell? ⟨g,0,none⟩=some x0/\w.cell? ⟨g,1,none⟩=some x1/\w.cell? ⟨g,2,none⟩=some x2 /\
 w.cell? ⟨g,3,none⟩=some x3/\w.cell? ⟨g,4,none⟩=some x4/\(∀i,w.frozen? ⟨g,i,none⟩=false)/\g<w.heap.size:=
 ⟨h.cell 0,h.cell 1,h.cell 2,h.cell 3,h.cell 4,h.frozen,h.lt⟩
theorem Fk(A h g f:Option Addr)(c n o p l m j k i a z r b:Nat)(s:Int)(d:Bool)(w:World):
 Calls prog 95 #[.agg #[.slice A n c,.slice h p o,.slice g m l,.slice f k j,.map (some i)],.agg #[.int .i64 (a:Int),.int .i64 (z:Int),.int .i64 s,.int .i64 (r:Int),.bool d,.int .u64 (b:Int)]] w λe q=>e=.returned (.bool (!(d||decide (0<b))))/\Below w.heap.size w q:=by
 have q:=(Bx.new w 163 #[.slice A n c,.slice h p o,.slice g m l,.slice f k j,.map (some i)]).alloc (.cells #[.int .i64 (a:Int),.int .i64 (z:Int),.int .i64 s,.int .i64 (r:Int),.bool d,.int .u64 (b:Int)] 55);have e:=Bx.new (w.alloc (.cells #[.slice A n c,.slice h p o,.slice g m l,.slice f k j,.map (some i)] 163)) 55 #[.int .i64 (a:Int),.int .i64 (z:Int),.int .i64 s,.int .i64 (r:Int),.bool d,.int .u64 (b:Int)];rw[kqm] at e;obtain⟨XS,XB,t⟩:=yq1 q e (((kqe w.heap.size w).alloc (kqa _) (.cells #[.slice A n c,.slice h p o,.slice g m l,.slice f k j,.map (some i)] 163)).alloc (by simp) (.cells #[.int .i64 (a:Int),.int .i64 (z:Int),.int .i64 s,.int .i64 (r:Int),.bool d,.int .u64 (b:Int)] 55));clear q e;have u:((b:Int)==0) = !decide (0<b):=by rw[kzk,kqw,kxq,kqb];omega
 obtain⟨q,e⟩:=xq (decide (0<b));rw[e] at u |-;clear e;cases d
 all_goals
  go_enter func95,ntmps95;go_wp2;go_ret;exact⟨rfl,t.out⟩
theorem Ct(A r v u:Option Addr)(L:List Ty)(c n I s G H E F y a z d D:Nat)(J:Int)(C:Bool)(w:World)(h:L.length=s)(N:∀x∈L,dj x.l=0/\kSz x.l=bp x.l.length/\x.l.length<=8)(f:RdL w w.heap.size r L):
 Calls prog 96 #[.agg #[.slice A n c,.slice r s I,.slice v H G,.slice u F E,.map (some y)],.agg #[.int .i64 (a:Int),.int .i64 (z:Int),.int .i64 J,.int .i64 (d:Int),.bool C,.int .u64 (D:Int)]] w λe b=>e=.returned (.bool (decide (d<L.length)&&bp (((L.map Ty.l)[d]?).getD []).length==z))/\Below w.heap.size w b:=by
 have g:=(Bx.new w 163 #[.slice A n c,.slice r s I,.slice v H G,.slice u F E,.map (some y)]).alloc (.cells #[.int .i64 (a:Int),.int .i64 (z:Int),.int .i64 J,.int .i64 (d:Int),.bool C,.int .u64 (D:Int)] 55);have b:=Bx.new (w.alloc (.cells #[.slice A n c,.slice r s I,.slice v H G,.slice u F E,.map (some y)] 163)) 55 #[.int .i64 (a:Int),.int .i64 (z:Int),.int .i64 J,.int .i64 (d:Int),.bool C,.int .u64 (D:Int)];rw[kqm] at b;obtain⟨XS,XB,t⟩:=yq1 g b (((kqe w.heap.size w).alloc (kqa _) (.cells #[.slice A n c,.slice r s I,.slice v H G,.slice u F E,.map (some y)] 163)).alloc (by simp) (.cells #[.int .i64 (a:Int),.int .i64 (z:Int),.int .i64 J,.int .i64 (d:Int),.bool C,.int .u64 (D:Int)] 55));clear g b;subst h;have O:=y5 (f.up t.out (kqa _));have hz1:=t.out.size;clear f;by_cases f:d<L.length
 .obtain ⟨b,off,rfl,V,S⟩:=pB O.out.1 f;have g:=O.out.2 _ (kqp f);obtain⟨i,j,m⟩:=N _ (kqp f);have k:Hid ((decide (d<L.length)&&bp (((L.map Ty.l)[d]?).getD []).length==z)=(bp L[d].l.length==z)):=y5 (by
   rw[decide_eq_true f,kxk,kqg f];rfl)
  obtain⟨x,R⟩:=xq (L[d]);rw[R] at S i j m g k;obtain⟨T,X,p⟩:=x;dsimp only at S i j m g k;obtain⟨K,M⟩:=yq0 g (λW B (h:RdY W B T p)=>uc T p X p.length B W rfl (by omega) h);rw[i,j] at M;have B:(((bp p.length:Nat):Int)==(z:Int))=(bp p.length==z):=by rw[kzk,kqw,kqw];omega
  obtain⟨o,P⟩:=xq (bp p.length);rw[P] at k M B;obtain⟨q,Q⟩:=xq ((o==z));rw[Q] at k B;have U:decide ((L.length:Int)<=(d:Int))=false:=(by rw[kqb];omega);have h:decide (L.length<=d)=false:=(by rw[kqb];omega);have j1:(d:Int)<(L.length:Int):=(by omega);have j0:(0:Int)<=(d:Int):=(by omega);clear R P Q N i j m g f V;go_enter func96,ntmps96;go_wp2_with fail;refine (M.out _ _ K.out).mono ?_;rintro e w1 ⟨rfl,rfl⟩;go_wp2;go_ret;exact⟨by rw[k.out];rfl,t.out⟩
 have k:Hid ((decide (d<L.length)&&bp (((L.map Ty.l)[d]?).getD []).length==z)=false):=y5 (by rw[decide_eq_false f];rfl);have U:decide ((L.length:Int)<=(d:Int))=true:=(by rw[kqh];omega);have h:decide (L.length<=d)=true:=(by rw[kqh];omega);clear f N;go_enter func96,ntmps96;go_wp2;go_ret;exact⟨by rw[k.out];rfl,t.out⟩
theorem Fl{q:Nat}(h:q<18446744073709551616):bits BinOp.and .u64 (q:Int) 2047=((q%2048:Nat):Int):=by
 have:=u64_and_nat q 2047 h (by omega);rw[show (((2047:Nat)):Int)=2047 from rfl] at this;rw[this];have e:q &&& 2047=q%2048:=by rw[show (2047:Nat)=2 ^ 11-1 by decide,kx4]
 rw[e]
theorem Cx(v:Nat)(w:World)(j:v<18446744073709551616):Calls prog 159 #[.int .u64 (v:Int)] w λe a=>e=.returned (.bool (uA v))/\w=a:=by
 have g:Hid (uA v=(v==9221120237041090561||decide (v%9223372036854775808<=9218868437227405312))):=y5 rfl;have b:Hid (v/4503599627370496%2048≠2047->uA v=true):=y5 λh=>by rw[g.out,decide_eq_true (by omega),kvv]
 have d:Hid (v*4096%18446744073709551616=0->uA v=true):=y5 λh=>by rw[g.out,decide_eq_true (by omega),kvv]
 have a:Hid (v/4503599627370496%2048=2047->¬ v*4096%18446744073709551616=0->uA v=(v==9221120237041090561)):=y5 λh f=>by rw[g.out,decide_eq_false (by omega),kvm]
 have h:=Fl (q:=v/4503599627370496) (by omega);have k:(v:Int)/4503599627370496=((v/4503599627370496:Nat):Int):=(by omega);have l:IntKind.u64.wrap ((v:Int)*4096)=((v*4096%18446744073709551616:Nat):Int):=by simp[IntKind.wrap,IntKind.bits,IntKind.signed]
 obtain⟨q,e⟩:=xq (v/4503599627370496);rw[e] at b a h k;obtain⟨r,i⟩:=xq (q%2048);rw[i] at b a h;obtain⟨m,c⟩:=xq (v*4096%18446744073709551616);rw[c] at d a l;have e3:((v:Int)==9221120237041090561)=(v==9221120237041090561):=by rw[kzk,kqw,kqw];omega
 clear e i c j;by_cases e:r=2047
 .have i:((r:Int) != 2047)=false:=(by rw[kqt];omega);by_cases f:m=0
  .have c:=y5 (d.out f);have j:((m:Int)==0)=true:=(by rw[kqw];omega);clear e f;go_enter func159,ntmps159;go_wp2;go_ret;exact⟨by rw[c.out];rfl,rfl⟩
  have c:=y5 (a.out e f);have j:((m:Int)==0)=false:=(by rw[kqc];omega);clear e f;go_enter func159,ntmps159;go_wp2;go_ret;exact⟨by rw[c.out];rfl,rfl⟩
 have c:=y5 (b.out e);have i:((r:Int) != 2047)=true:=(by rw[kqx];omega);clear e;go_enter func159,ntmps159;go_wp2;go_ret;exact⟨by rw[c.out];rfl,rfl⟩
theorem sP(O:List Bk)(v:Nat):∀k,k<=O.length->bT (O.map Bk.at_) (v:Int) k=(O.take k).any λb=>b.at_==(v:Int):=by
 intro k
 induction k with
 | zero=>intro _;rfl
 | succ k b =>intro a;simp only[bT];rw[b (by omega),kqi (show k<O.length from a),List.any_append,kxk,kqg (show k<O.length from a)];simp
theorem vl(O:List Bk)(v:Nat):bT (O.map Bk.at_) (v:Int) O.length=mw O v:=by rw[sP O v O.length (kqa _),kzb];rfl
structure SgW (W:World) (A TA:Option Addr) (G:List Nat) (L:List Ty) (O:List Bk) (mb:Nat):Prop where
 w:RdW W W.heap.size A G
 t:RdL W W.heap.size TA L
 m:W.ownsMap prog 3 (plainElem prog 4) mb O.length (fI (O.map Bk.at_) O.length)
theorem eK{k:TypeId}{R:Value->Option (DataW Unit × List MemPlace)}{D:DataW Unit}(h:w.ownsMap P k R b n D)(e:w'.heap[b]? = w.heap[b]?):w'.ownsMap P k R b n D:=by obtain⟨c,a,d,r⟩:=h;exact⟨c,a,e.trans d,r⟩
theorem xr(A k u t:Option Addr)(G:List Nat)(L:List Ty)(c n I s F H D E y a z f C:Nat)(J:Int)(B:Bool)(w:World)(hn:G.length=n)(W:n<=2048)(g:L.length=s)(P:f<L.length)(o:L[f].l.length<=8)(h:z=bp L[f].l.length)(d:a+z<=n)(M:RdW w w.heap.size A G)(K:RdL w w.heap.size k L):
 Calls prog 97 #[.agg #[.slice A n c,.slice k s I,.slice u H F,.slice t E D,.map (some y)],.agg #[.int .i64 (a:Int),.int .i64 (z:Int),.int .i64 J,.int .i64 (f:Int),.bool B,.int .u64 (C:Int)]] w λe b=>e=.returned (.bool (!(decide (L[f].l.length+2<z)&&wd G (a+2+L[f].l.length) != 0)))/\Below w.heap.size w b:=by
 have e:=(Bx.new w 163 #[.slice A n c,.slice k s I,.slice u H F,.slice t E D,.map (some y)]).alloc (.cells #[.int .i64 (a:Int),.int .i64 (z:Int),.int .i64 J,.int .i64 (f:Int),.bool B,.int .u64 (C:Int)] 55);have b:=Bx.new (w.alloc (.cells #[.slice A n c,.slice k s I,.slice u H F,.slice t E D,.map (some y)] 163)) 55 #[.int .i64 (a:Int),.int .i64 (z:Int),.int .i64 J,.int .i64 (f:Int),.bool B,.int .u64 (C:Int)];rw[kqm] at b;obtain⟨XS,XB,j⟩:=yq1 e b (((kqe w.heap.size w).alloc (kqa _) (.cells #[.slice A n c,.slice k s I,.slice u H F,.slice t E D,.map (some y)] 163)).alloc (by simp) (.cells #[.int .i64 (a:Int),.int .i64 (z:Int),.int .i64 J,.int .i64 (f:Int),.bool B,.int .u64 (C:Int)] 55));clear e b;subst g hn;have Z:=y5 (K.up j.out (kqa _));have hz1:=j.out.size;obtain⟨b,off,rfl,U,S⟩:=pB Z.out.1 P;obtain⟨x,R⟩:=xq (L[f]);rw[R] at S o h |-;obtain⟨xA,xc,xl⟩:=x;dsimp only at S o h |-;have j1:(f:Int)<(L.length:Int):=(by omega);have j0:(0:Int)<=(f:Int):=(by omega);obtain⟨m,e⟩:=xq xl.length;rw[e] at S o h |-;by_cases r:m%2=0
 .have i:Hid ((!(decide (m+2<z)&&wd G (a+2+m) != 0))=true):=y5 (by rw[decide_eq_false (by rw[h];unfold bp;omega)];rfl);have g:((m:Int)%2==0)=true:=(by rw[kqw];omega);clear r h d o W R e K M U;go_enter func97,ntmps97;go_wp2;go_ret;exact⟨by rw[i.out];rfl,j.out⟩
 obtain⟨b2,off2,rfl,N,T⟩:=RdW.at_ (M.up j.out (kqa _)) (show a+2+m<G.length by rw[h] at d;unfold bp at d;omega);rw[<-bY] at T;have i1:IntKind.i64.wrap ((a:Int)+2)=((a+2:Nat):Int):=by rw[kqo _ (by omega)];omega
 have Y:IntKind.i64.wrap (((a+2:Nat):Int)+(m:Int))=((a+2+m:Nat):Int):=by rw[kqo _ (by omega)];omega
 have k1:((a+2+m:Nat):Int)<(G.length:Int):=by rw[h] at d;unfold bp at d;omega
 have k0:(0:Int)<=((a+2+m:Nat):Int):=(by omega);have i:Hid ((!(decide (m+2<z)&&wd G (a+2+m) != 0))=(wd G (a+2+m)==0)):=y5 (by rw[decide_eq_true (by rw[h];unfold bp;omega),kzx];exact Bool.not_not _);have g:((m:Int)%2==0)=false:=(by rw[kqc];omega);obtain⟨p,O⟩:=xq (a+2+m);rw[O] at T Y k1 k0 i;obtain⟨g,V⟩:=xq (a+2);rw[V] at i1 Y;obtain⟨v,Q⟩:=xq (wd G p);rw[O,Q];rw[Q] at T i;have e2:((v:Int)==0)=(v==0):=by rw[kzk,kqw,kqw];omega
 obtain⟨q,X⟩:=xq ((v==0));rw[X] at i e2;clear r h d o W R e K M U O V Q X N;go_enter func97,ntmps97;go_wp2;go_ret;exact⟨by rw[i.out];rfl,j.out⟩
def Ii (G F:List Nat) (O:List Bk) (a r k:Nat):Prop:=∀i,i<k->wrF G F O a r i=false
theorem rY(h:Ii G F O a r k)(c:wrF G F O a r k=false):Ii G F O a r (k+1):=λi hi=>by
 rcases kq8 i k with b|b
 .exact h i b
 .have:i=k:=(by omega);subst this;exact c
theorem F7(h:Ii G F O a r F.length):((List.range F.length).any λi=>wrF G F O a r i)=false:=by rw[kkc];intro i b;rw[h i (kzn.1 b)];simp
theorem Gl(b:k<F.length)(h:wrF G F O a r k=true):((List.range F.length).any λi=>wrF G F O a r i)=true:=kx1.2 ⟨k,kzn.2 b,h⟩
theorem yz(A C B u:Option Addr)(G:List Nat)(L:List Ty)(O:List Bk)(c n R S P Q M N I a z o K:Nat)(T:Int)(J:Bool)(w:World)(hn:G.length=n)(hm:n<=2048)(h:L.length=S)(E:o<L.length)(h8:L[o].l.length<=8)(p:z=bp L[o].l.length)(f:a+z<=n)(V:RdW w w.heap.size A G)(H:RdL w w.heap.size C L)(W:∀x∈G,x<2^64):
 Calls prog 98 #[.agg #[.slice A n c,.slice C S R,.slice B Q P,.slice u N M,.map (some I)],.agg #[.int .i64 (a:Int),.int .i64 (z:Int),.int .i64 T,.int .i64 (o:Int),.bool J,.int .u64 (K:Int)]] w λe b=>e=.returned (.bool (!((List.range L[o].l.length).any λi=>wrF G L[o].l O a 10 i)))/\Below w.heap.size w b:=by
 have d:=(Bx.new w 163 #[.slice A n c,.slice C S R,.slice B Q P,.slice u N M,.map (some I)]).alloc (.cells #[.int .i64 (a:Int),.int .i64 (z:Int),.int .i64 T,.int .i64 (o:Int),.bool J,.int .u64 (K:Int)] 55);have b:=Bx.new (w.alloc (.cells #[.slice A n c,.slice C S R,.slice B Q P,.slice u N M,.map (some I)] 163)) 55 #[.int .i64 (a:Int),.int .i64 (z:Int),.int .i64 T,.int .i64 (o:Int),.bool J,.int .u64 (K:Int)];rw[kqm] at b;obtain⟨y,v,g⟩:=yq1 d b (((kqe w.heap.size w).alloc (kqa _) (.cells #[.slice A n c,.slice C S R,.slice B Q P,.slice u N M,.map (some I)] 163)).alloc (by simp) (.cells #[.int .i64 (a:Int),.int .i64 (z:Int),.int .i64 T,.int .i64 (o:Int),.bool J,.int .u64 (K:Int)] 55));clear d b;subst h hn;have s:=y5 (H.up g.out (kqa _));have t:=g.out.size;obtain⟨b,off,rfl,hb,p0⟩:=pB s.out.1 E;have j:=s.out.2 _ (kqp E);obtain⟨x,hx⟩:=xq (L[o]);rw[hx] at p0 h8 p j |-;obtain⟨xA,xc,m⟩:=x;dsimp only at p0 h8 p j |-;obtain⟨HY,HR⟩:=yq0 j (V.up g.out (kqa _));have j1:(o:Int)<(L.length:Int):=(by omega);have j0:(0:Int)<=(o:Int):=(by omega);have D:Hid (∀k,k<m.length->a+2+k<G.length):=y5 λk U=>by rw[p] at f;unfold bp at f;omega
 have X:=y5 (fH W);have Eq:Hid (Ii G m O a 10 0):=y5 λi h=>absurd h (by omega);obtain⟨Y,Z⟩:=yq0 (λh=>F7 (G:=G) (F:=m) (O:=O) (a:=a) (r:=10) h) (λk U h=>Gl (G:=G) (F:=m) (O:=O) (a:=a) (r:=10) (k:=k) U h);have ha:a<=2048:=(by omega);obtain⟨q0,q1,q2,q3,q4,-,-⟩:=y.out.c5;obtain⟨r0,r1,r2,r3,r4,r5,-,-⟩:=v.out.c6;obtain⟨W0,d⟩:∃W0,(w.alloc (.cells #[.slice A G.length c,.slice (some ⟨b,off,none⟩) L.length R,.slice B Q P,.slice u N M,.map (some I)] 163)).alloc (.cells #[.int .i64 (a:Int),.int .i64 (z:Int),.int .i64 T,.int .i64 (o:Int),.bool J,.int .u64 (K:Int)] 55)=W0:=⟨_,rfl⟩;rw[d] at p0 HY HR q0 q1 q2 q3 q4 r0 r1 r2 r3 r4 r5;have q:=y5 (show Below w.heap.size w W0 by rw[<-d];exact g.out);clear p f hm hx H V hb j W y v g s t;go_enter func98,ntmps98;go_wp2_with fail;clear d
 go_loop [14] (λi=>∃k:Nat,k<=m.length/\i=.int .i64 k/\Hid (Ii G m O a 10 k)) (λi=>m.length-(intOf i).toNat)
 case atStart=>exact⟨0,kqv _,rfl,Eq⟩
 obtain⟨k,U,rfl,HW⟩:=hrel;by_cases i:k<m.length
 .obtain ⟨g,go,rfl,hg,y0⟩:=HY.out.at_ i;obtain⟨d,dof,rfl,hd,w0⟩:=RdW.at_ HR.out (D.out k i);rw[<-bY] at w0;have hj:=D.out k i;have t:=y5 (λW=>Cx (wd G (a+2+k)) W (X.out _));have j:wrF G m O a 10 k=(m[k]? == some 2 && !uA (wd G (a+2+k))):=rfl;rw[kqg i] at j;obtain⟨HS,V⟩:=yq0 (λh=>rY HW.out h) (λh=>Z.out k i h);have i1:IntKind.i64.wrap ((a:Int)+2)=((a+2:Nat):Int):=by rw[kqo _ (by omega)];omega
  have i2:IntKind.i64.wrap (((a+2:Nat):Int)+(k:Int))=((a+2+k:Nat):Int):=by rw[kqo _ (by omega)];omega
  have k1:((a+2+k:Nat):Int)<(G.length:Int):=(by omega);have k0:(0:Int)<=((a+2+k:Nat):Int):=(by omega);have hki:(k:Int)<(m.length:Int):=(by omega);have hk0:(0:Int)<=(k:Int):=(by omega);obtain⟨y,H⟩:=xq (m[k]);rw[H] at y0 j;obtain⟨p,hp⟩:=xq (a+2+k);rw[hp] at w0 i2 k1 k0 t j;obtain⟨s,hs⟩:=xq (a+2);rw[hs] at i1 i2;obtain⟨v,hv⟩:=xq (wd G p);rw[hv] at w0 t j;obtain⟨f,W⟩:=xq (uA v);rw[W] at t j;have h:=y5 j;clear H hp hs hv W j hj;by_cases j:y=2
  .subst j;cases f
   .have W:=y5 (V.out (by rw[h.out];rfl));go_wp2_with fail;refine (t.out _).mono ?_;rintro e w5 ⟨rfl,rfl⟩;go_wp2;go_ret;exact⟨by rw[W.out];rfl,q.out⟩
   have H:=y5 (HS.out (by rw[h.out];rfl));go_wp2_with fail;refine (t.out _).mono ?_;rintro e w5 ⟨rfl,rfl⟩;go_wp2_with fail
   go_round
   case rel=>exact⟨k+1,by omega,by go_num,H⟩
   case measure=>simp[intOf];omega
  have e1:((y:Int)==2)=false:=(by rw[kqc];omega);have H:=y5 (HS.out (by rw[h.out,show ((some y:Option Nat)==some 2)=false by simpa using j];rfl));clear j;go_wp2_with fail
  go_round
  case rel=>exact⟨k+1,by omega,by go_num,H⟩
  case measure=>simp[intOf];omega
 have d:k=m.length:=(by omega);have W:=y5 (Y.out (d ▸ HW.out));have hend:decide ((k:Int)<(m.length:Int))=false:=(by rw[kqb];omega);have hendn:decide (k<m.length)=false:=by rw[kqb];exact i
 clear d i U;go_wp2;go_ret;exact⟨by rw[W.out];rfl,q.out⟩
theorem DV(A Q N M:Option Addr)(G:List Nat)(L:List Ty)(O:List Bk)(c n tc tn Y Z W X E a z m V:Nat)(xk:Int)(U:Bool)(w:World)(hn:G.length=n)(T:n<=2048)(h:L.length=tn)(S:m<L.length)(h8:L[m].l.length<=8)(p:z=bp L[m].l.length)(g:a+z<=n)(K:RdW w w.heap.size A G)(H:RdL w w.heap.size Q L)(ho:∀x∈G,x<2^64)(J:∀b∈O,b.at_<(n:Int))(s:w.ownsMap prog 3 (plainElem prog 4) E O.length (fI (O.map Bk.at_) O.length)):
 Calls prog 99 #[.agg #[.slice A n c,.slice Q tn tc,.slice N Z Y,.slice M X W,.map (some E)],.agg #[.int .i64 (a:Int),.int .i64 (z:Int),.int .i64 xk,.int .i64 (m:Int),.bool U,.int .u64 (V:Int)]] w λe d=>e=.returned (.bool (!((List.range L[m].l.length).any λi=>wrF G L[m].l O a 11 i)))/\Below w.heap.size w d:=by
 have f:=(Bx.new w 163 #[.slice A n c,.slice Q tn tc,.slice N Z Y,.slice M X W,.map (some E)]).alloc (.cells #[.int .i64 (a:Int),.int .i64 (z:Int),.int .i64 xk,.int .i64 (m:Int),.bool U,.int .u64 (V:Int)] 55);have d:=Bx.new (w.alloc (.cells #[.slice A n c,.slice Q tn tc,.slice N Z Y,.slice M X W,.map (some E)] 163)) 55 #[.int .i64 (a:Int),.int .i64 (z:Int),.int .i64 xk,.int .i64 (m:Int),.bool U,.int .u64 (V:Int)];rw[kqm] at d;obtain⟨D,C,j⟩:=yq1 f d (((kqe w.heap.size w).alloc (kqa _) (.cells #[.slice A n c,.slice Q tn tc,.slice N Z Y,.slice M X W,.map (some E)] 163)).alloc (by simp) (.cells #[.int .i64 (a:Int),.int .i64 (z:Int),.int .i64 xk,.int .i64 (m:Int),.bool U,.int .u64 (V:Int)] 55));clear f d;subst h hn;have q:=y5 (H.up j.out (kqa _));have B:=j.out.size;obtain⟨b,off,rfl,y,p0⟩:=pB q.out.1 S;have o:=q.out.2 _ (kqp S);obtain⟨x,hx⟩:=xq (L[m]);rw[hx] at p0 h8 p o |-;obtain⟨xA,xc,f⟩:=x;dsimp only at p0 h8 p o |-;obtain⟨HY,HR⟩:=yq0 o (K.up j.out (kqa _));have j1:(m:Int)<(L.length:Int):=(by omega);have j0:(0:Int)<=(m:Int):=(by omega);have R:Hid (∀k,k<f.length->a+2+k<G.length):=y5 λk hk=>by rw[p] at g;unfold bp at g;omega
 obtain⟨Eq,u,I⟩:=yq1 (fH ho) T (eK s (j.out.block E s.lt));have Ka:Hid (∀v:Nat,G.length<=v->mw O v=false):=y5 λv hv=>by
  cases hq:mw O v with
  | false=>rfl
  | true =>obtain⟨b,y,e⟩:=kx1.1 hq;rw[kqw] at e;have:=J b y;omega
 have Kd:Hid (Ii G f O a 11 0):=y5 λi h=>absurd h (by omega);obtain⟨Kb,Kc⟩:=yq0 (λh=>F7 (G:=G) (F:=f) (O:=O) (a:=a) (r:=11) h) (λk hk h=>Gl (G:=G) (F:=f) (O:=O) (a:=a) (r:=11) (k:=k) hk h);have ha:a<=2048:=(by omega);obtain⟨q0,q1,q2,q3,q4,-,-⟩:=D.out.c5;obtain⟨r0,r1,r2,r3,r4,r5,-,-⟩:=C.out.c6;obtain⟨W0,d⟩:∃W0,(w.alloc (.cells #[.slice A G.length c,.slice (some ⟨b,off,none⟩) L.length tc,.slice N Z Y,.slice M X W,.map (some E)] 163)).alloc (.cells #[.int .i64 (a:Int),.int .i64 (z:Int),.int .i64 xk,.int .i64 (m:Int),.bool U,.int .u64 (V:Int)] 55)=W0:=⟨_,rfl⟩;rw[d] at p0 HY HR I q0 q1 q2 q3 q4 r0 r1 r2 r3 r4 r5;have t:=y5 (show Below w.heap.size w W0 by rw[<-d];exact j.out);clear p g T hx H K y o ho J s D C j q B;go_enter func99,ntmps99;go_wp2_with fail;clear d
 go_loop [15] (λi=>∃k:Nat,k<=f.length/\i=.int .i64 k/\Hid (Ii G f O a 11 k)) (λi=>f.length-(intOf i).toNat)
 case atStart=>exact⟨0,kqv _,rfl,Kd⟩
 obtain⟨k,hk,rfl,HW⟩:=hrel;by_cases e:k<f.length
 .obtain ⟨g,go,rfl,hg,y0⟩:=HY.out.at_ e;obtain⟨d,dof,rfl,hd,w0⟩:=RdW.at_ HR.out (R.out k e);rw[<-bY] at w0;have D:=R.out k e;have j:wrF G f O a 11 k=(f[k]? == some 3&&(decide (0<wd G (a+2+k)) && !mw O (wd G (a+2+k)))):=rfl;rw[kqg e] at j;have i:=Eq.out (a+2+k);obtain⟨HS,H⟩:=yq0 (λh=>rY HW.out h) (λh=>Kc.out k e h);have i1:IntKind.i64.wrap ((a:Int)+2)=((a+2:Nat):Int):=by rw[kqo _ (by omega)];omega
  have i2:IntKind.i64.wrap (((a+2:Nat):Int)+(k:Int))=((a+2+k:Nat):Int):=by rw[kqo _ (by omega)];omega
  have k1:((a+2+k:Nat):Int)<(G.length:Int):=(by omega);have k0:(0:Int)<=((a+2+k:Nat):Int):=(by omega);have hki:(k:Int)<(f.length:Int):=(by omega);have hk0:(0:Int)<=(k:Int):=(by omega);have w1:IntKind.u64.wrap (G.length:Int)=(G.length:Int):=kzi _ (by have:=u.out;omega);obtain⟨y,q⟩:=xq (f[k]);rw[q] at y0 j;obtain⟨p,B⟩:=xq (a+2+k);rw[B] at w0 i2 k1 k0 j i;obtain⟨s,C⟩:=xq (a+2);rw[C] at i1 i2;obtain⟨v,hv⟩:=xq (wd G p);rw[hv] at w0 j i;obtain⟨h,o⟩:=yq0 j (Ka.out v);clear q B C hv j D;by_cases D:y=3
  .subst D;by_cases B:v=0
   .subst B;have J:=y5 (HS.out (by rw[h.out];rfl));clear i;go_wp2_with fail
    go_round
    case rel=>exact⟨k+1,by omega,by go_num,J⟩
    case measure=>simp[intOf];omega
   have e1:((v:Int) != 0)=true:=(by rw[kqx];omega);have e1n:(v != 0)=true:=(by rw[kqx];omega);by_cases C:G.length<=v
   .have K:=y5 (H.out (by rw[h.out,o.out C,decide_eq_true (by omega)];rfl));have q:decide ((G.length:Int)<=(v:Int))=true:=(by rw[kqh];omega);have j:decide (G.length<=v)=true:=(by rw[kqh];omega);clear i C B;go_wp2;go_ret;exact⟨by rw[K.out];rfl,t.out⟩
   have q:decide ((G.length:Int)<=(v:Int))=false:=(by rw[kqb];omega);have j:decide (G.length<=v)=false:=(by rw[kqb];omega);have w2:IntKind.i64.wrap (v:Int)=(v:Int):=kqo _ (by have:=u.out;omega);have T:(Lit.int .i64 (v:Int)).wf=true:=by have:=u.out;simp[Lit.wf,IntKind.min,IntKind.max,IntKind.signed,IntKind.bits];omega
   have Ke:=jf I.out nh underlying161 underlying4 (m9 W0) (keyOf_int_mk (P:=prog) underlying3 T) (c:=mw O v) (by rw[na,vl]);have j:Hid (wrF G f O a 11 k = !mw O v):=y5 (by rw[h.out,decide_eq_true (by omega)];simp);obtain⟨q,hq⟩:=xq (mw O v);rw[hq] at Ke j;clear i C B T hq o h;cases q
   .have K:=y5 (H.out (by rw[j.out];rfl));go_wp2;go_ret;exact⟨by rw[K.out];rfl,t.out⟩
   have J:=y5 (HS.out (by rw[j.out];rfl));go_wp2_with fail
   go_round
   case rel=>exact⟨k+1,by omega,by go_num,J⟩
   case measure=>simp[intOf];omega
  have e1:((y:Int)==3)=false:=(by rw[kqc];omega);have J:=y5 (HS.out (by rw[h.out,show ((some y:Option Nat)==some 3)=false by simpa using D];rfl));clear D i;go_wp2_with fail
  go_round
  case rel=>exact⟨k+1,by omega,by go_num,J⟩
  case measure=>simp[intOf];omega
 have d:k=f.length:=(by omega);have K:=y5 (Kb.out (d ▸ HW.out));have hend:decide ((k:Int)<(f.length:Int))=false:=(by rw[kqb];omega);have hendn:decide (k<f.length)=false:=by rw[kqb];exact e
 clear d e hk;go_wp2;go_ret;exact⟨by rw[K.out];rfl,t.out⟩
def pt (l:List Nat):Array Value:=(l.flatMap ap).toArray
theorem Cf(l:List Nat):(pt l).size=l.length:=by unfold pt;rw[kkd,bU _ 1 cA,kjd]
theorem D5(l:List Nat):(pt l).all (·.oneCell')=true:=by
 rw[kkn];intro i hi;have:(pt l)[i]∈l.flatMap ap:=by unfold pt at *;simp
 obtain⟨x,-,a⟩:=kvi.1 this;rw[ap,kq2] at a;rw[a];rfl
theorem rA:(prog.info? 242).map (·.size)=some 8:=by kernel_rfl
theorem Gb(w:World):(zeroValue 242).run prog w=.ok (.agg #[.int .u64 0,.int .u64 0,.int .u64 0,.int .u64 0,.int .u64 0,.int .u64 0,.int .u64 0,.int .u64 0]) w:=by kernel_rfl
theorem yw{fn:Func}{p:Tmp}(h:fn.results=#[.cell p 242])(a:Array Value){W:World}{cs:Array Value}(c:Bx W g t cs)(i:cs.size=8)(f:a.getD p undef=.pointer (some ⟨g,0,none⟩)):
 (results fn a).run prog W=.ok (.agg cs) W:=by
 have b:a[p]?.getD undef=.pointer (some ⟨g,0,none⟩):=by simpa using f
 have d:(prog.info? 242).map (·.size)=some cs.size:=by rw[i];exact rA
 have e:=run_loadVar_row W g t 242 cs (0,0) _ c underlying242 rfl d;simp[results,h,b,asAddr,e]
theorem xu(n t:Nat)(w:World)(hn:n<=1000000)(ht:t<=1000000):
 Calls prog 174 #[.agg #[.int .i64 (n:Int),.int .i64 (t:Int)]] w λe a=>e=.returned (.agg (pt (spL n t)))/\Below w.heap.size w a:=by
 have r:=y5 (λA W (a:RdW W W.heap.size A (sp7 n t))=>re A (sp7 n t) 8 7 W rfl (by omega) a (λx a=>by
  simp only[sp7,kq0,kzm,or_false] at a;omega))
 obtain⟨q,b⟩:=xq (aR 14695981039346656037 (sp7 n t));have x:=y5 (show pt (spL n t)=#[.int .u64 32777959566500194,.int .u64 1,.int .u64 (n:Int),.int .u64 (t:Int),.int .u64 0,.int .u64 0,.int .u64 0,.int .u64 (q:Int)] by
  unfold pt spL;rw[b];rfl)
 have k:Hid (∀W g,Bx W g 242 #[.int .u64 32777959566500194,.int .u64 1,.int .u64 (n:Int),.int .u64 (t:Int),.int .u64 0,.int .u64 0,.int .u64 0,.int .u64 0]->RdW W W.heap.size (some ⟨g,0,none⟩) (sp7 n t)):=y5 λW g h=>(Rd.of_box h h.lt).take_ 7;rw[b] at r;have u:=y5 (((kqe w.heap.size w).alloc (kqa _) (.cells #[.int .i64 (n:Int),.int .i64 (t:Int)] 126)).alloc (by simp) (.cells #[.int .u64 0,.int .u64 0,.int .u64 0,.int .u64 0,.int .u64 0,.int .u64 0,.int .u64 0,.int .u64 0] 242));have w1:IntKind.u64.wrap (n:Int)=(n:Int):=kzi _ (by omega);have w2:IntKind.u64.wrap (t:Int)=(t:Int):=kzi _ (by omega);have hzv:=Gb;have bx:=Bx.new ((w.alloc (.cells #[.int .i64 (n:Int),.int .i64 (t:Int)] 126)).alloc (.cells #[.int .u64 0,.int .u64 0,.int .u64 0,.int .u64 0,.int .u64 0,.int .u64 0,.int .u64 0,.int .u64 0] 242)) 242 #[.int .u64 0,.int .u64 0,.int .u64 0,.int .u64 0,.int .u64 0,.int .u64 0,.int .u64 0,.int .u64 0];rw[kqm,kqm] at bx;obtain⟨s,j⟩:=yq0 bx (((u.out.alloc (by simp;omega) (.cells #[.int .u64 0,.int .u64 0,.int .u64 0,.int .u64 0,.int .u64 0,.int .u64 0,.int .u64 0,.int .u64 0] 242))));have a:=Bx.new (w.alloc (.cells #[.int .i64 (n:Int),.int .i64 (t:Int)] 126)) 242 #[.int .u64 0,.int .u64 0,.int .u64 0,.int .u64 0,.int .u64 0,.int .u64 0,.int .u64 0,.int .u64 0]
 rw[kqm] at a;have o:=y5 (a.alloc (.cells #[.int .u64 0,.int .u64 0,.int .u64 0,.int .u64 0,.int .u64 0,.int .u64 0,.int .u64 0,.int .u64 0] 242));have m:(prog.info? 242).map (·.size)=some (#[.int .u64 32777959566500194,.int .u64 1,.int .u64 (n:Int),.int .u64 (t:Int),.int .u64 0,.int .u64 0,.int .u64 0,.int .u64 0]:Array Value).size:=rA;clear b bx a;have hbd:∀W,(Instr.build 242 #[(0,.int .u64 32777959566500194),(1,.int .u64 1),(2,.int .u64 (n:Int)),(3,.int .u64 (t:Int))]).run prog W=.ok (.agg #[.int .u64 32777959566500194,.int .u64 1,.int .u64 (n:Int),.int .u64 (t:Int),.int .u64 0,.int .u64 0,.int .u64 0,.int .u64 0]) W:=λ_=>by kernel_rfl
 go_enter func174,ntmps174;go_wp2_with (first
  | ((with_reducible refine aj 242 (.tmp 3) _ ?_);refine ai rfl _ _ _ rfl (w.heap.size+1+1) 242 #[.int .u64 0,.int .u64 0,.int .u64 0,.int .u64 0,.int .u64 0,.int .u64 0,.int .u64 0,.int .u64 0] #[.int .u64 32777959566500194,.int .u64 1,.int .u64 (n:Int),.int .u64 (t:Int),.int .u64 0,.int .u64 0,.int .u64 0,.int .u64 0] (by rfl) (by rfl) s.out (by rfl) m (by simp[Value.oneCell']) ?_;intro w3 b a;have d:=y5 b;have c:=y5 a;clear b a))
 refine (r.out _ _ (k.out _ _ d.out)).mono ?_;rintro e w4 ⟨rfl,a⟩;have b:=y5 (c.out.below j.out (by omega));have h:=yq7 b a;have g:=d.out.up a d.out.lt;have y:=y5 ((c.out.bx o.out (by omega)).up a (c.out.bx o.out (by omega)).lt);have hl3:=g.lt;have hc7:=g.cell 7;have hf7:=g.frozen 7;obtain⟨z,l,i⟩:=yq1 (g.set_ 7 (.int .u64 (q:Int))) (y.out.far (p:=⟨w.heap.size+1+1,7,none⟩) (by simp) (.int .u64 (q:Int))) (h.out.setCell (p:=⟨w.heap.size+1+1,7,none⟩) (by simp;omega) (.int .u64 (q:Int)));have f:(prog.info? 242).map (·.size)=some (#[.int .u64 32777959566500194,.int .u64 1,.int .u64 (n:Int),.int .u64 (t:Int),.int .u64 0,.int .u64 0,.int .u64 0,.int .u64 (q:Int)]:Array Value).size:=rA;clear g a;go_wp2_with (first
  | ((with_reducible refine av 242 (.tmp 3) ?_);refine kz7 rfl _ _ rfl (w.heap.size+1+1) (by rfl) 242 #[.int .u64 32777959566500194,.int .u64 1,.int .u64 (n:Int),.int .u64 (t:Int),.int .u64 0,.int .u64 0,.int .u64 0,.int .u64 (q:Int)] (0,0) _ z.out underlying242 (by rfl) f ?_)
  | ((with_reducible refine aj 242 (.tmp 2) _ ?_);refine ai rfl _ _ _ rfl (w.heap.size+1) 242 #[.int .u64 0,.int .u64 0,.int .u64 0,.int .u64 0,.int .u64 0,.int .u64 0,.int .u64 0,.int .u64 0] #[.int .u64 32777959566500194,.int .u64 1,.int .u64 (n:Int),.int .u64 (t:Int),.int .u64 0,.int .u64 0,.int .u64 0,.int .u64 (q:Int)] (by rfl) (by rfl) l.out (by rfl) f (by simp[Value.oneCell']) ?_;intro w6 c a;have g:=y5 c;have d:=y5 a;clear c a))
 exact kqq (v:=.agg #[.int .u64 32777959566500194,.int .u64 1,.int .u64 (n:Int),.int .u64 (t:Int),.int .u64 0,.int .u64 0,.int .u64 0,.int .u64 (q:Int)]) (yw results174 _ g.out (by rfl) rfl) rfl ⟨by rw[x.out],d.out.below i.out (by omega)⟩
theorem Hw(h:l.length=8):∃p0 p1 p2 p3 p4 p5 p6 p7,l=[p0,p1,p2,p3,p4,p5,p6,p7]:=by
 match l,h with
 | [p0,p1,p2,p3,p4,p5,p6,p7],_=>exact⟨p0,p1,p2,p3,p4,p5,p6,p7,rfl⟩
theorem FM{a b:List Nat}(C:a.length=8)(D:b.length=8)(W:World):(Op.equalIn 10000 242 (.agg (pt a)) (.agg (pt b))).run prog W=.ok (decide (a=b)) W:=by
 have H:=underlying242;have I:=underlying53;have F:List.range' 0 8=[0,1,2,3,4,5,6,7]:=rfl;have e1:=λ(x y:Int)=>run_equalIn_int W 9998 53 .u64 .u64 x y I;obtain⟨i,j,k,l,m,n,o,p,rfl⟩:=Hw C;obtain⟨q,r,s,t,w,x,y,z,rfl⟩:=Hw D;have E:decide ([i,j,k,l,m,n,o,p]=[q,r,s,t,w,x,y,z])=(i==q&&(j==r&&(k==s&&(l==t&&(m==w&&(n==x&&(o==y&&p==z))))))):=by rw[kzk,kqh];simp
 have G:∀u v,(Op.equalIn 10000 242 u v)=(Op.equalIn (9999+1) 242 u v):=λ_ _=>rfl;rw[G,E];unfold Op.equalIn pt;simp only[kzz,List.flatMap_nil,ap,kzq,kz5];simp[go_sem,run_underlying H,Sem.run_bind,F,List.forIn_cons];simp only[Int.ofNat_inj];by_cases c:i=q
 .by_cases d:j=r
  .by_cases e:k=s
   .by_cases f:l=t
    .by_cases g:m=w
     .by_cases h:n=x
      .by_cases A:o=y
       .by_cases B:p=z<;>simp[c,d,e,f,g,h,A,B,go_sem]
       simp[c,d,e,f,g,h,A,go_sem]
      simp[c,d,e,f,g,h,go_sem]
     simp[c,d,e,f,g,go_sem]
    simp[c,d,e,f,go_sem]
   simp[c,d,e,go_sem]
  simp[c,d,go_sem]
 simp[c,go_sem]
theorem Gz(p q a b:Int)(W:World):(Op.equalIn 10000 126 (.agg #[.int .i64 p,.int .i64 q]) (.agg #[.int .i64 a,.int .i64 b])).run prog W=.ok (p==a&&q==b) W:=by have f:=underlying126;have g:=underlying3;have e:∀u v,(Op.equalIn 10000 126 u v)=(Op.equalIn (9999+1) 126 u v):=λ_ _=>rfl;have e1:=λ(x y:Int)=>run_equalIn_int W 9998 3 .i64 .i64 x y g;rw[e];unfold Op.equalIn;simp[go_sem,run_underlying f,Sem.run_bind,List.forIn_cons];by_cases c:p=a<;>by_cases d:q=b<;>simp[c,d,go_sem]
theorem Bx.c8{x5 x6 x7:Value}(h:Bx w g t #[x0,x1,x2,x3,x4,x5,x6,x7]):w.cell? ⟨g,0,none⟩=some x0/\w.cell? ⟨g,1,none⟩=some x1/\w.cell? ⟨g,2,none⟩=some x2 /\
 w.cell? ⟨g,3,none⟩=some x3/\w.cell? ⟨g,4,none⟩=some x4/\w.cell? ⟨g,5,none⟩=some x5/\w.cell? ⟨g,6,none⟩=some x6/\w.cell? ⟨g,7,none⟩=some x7:=
 ⟨h.cell 0,h.cell 1,h.cell 2,h.cell 3,h.cell 4,h.cell 5,h.cell 6,h.cell 7⟩
theorem at_s2a{ops:Array Oper}{rest:List Oper}{a:Act}{Q:Exit->Act->World->Prop}{dst:Option Tmp}{type:TypeId}{pos:String}{after:Array Edge}{guard:Option (Nat × Bool)}(b:TypeId)(x:Operand)(h:wpList P ops Q ({ dst:=dst,op:=.sliceToArrayPointer b x,type:=type,pos:=pos,after:=after,guard:=guard }::rest) a w):wpList P ops Q ({ dst:=dst,op:=.sliceToArrayPointer b x,type:=type,pos:=pos,after:=after,guard:=guard }::rest) a w:=h
theorem wm(a:k<l.length):(pt l)[k]? = some (.int .u64 (wd l k:Int)):=by unfold pt;have:=ja ap 1 cA l k 0 a (by omega);rw[kjd,kxb] at this;rw[List.getElem?_toArray,this,bY a];rfl
theorem Ep{B off:Nat}{cs:List Value}(h:Rd w B (some ⟨b,off,none⟩) cs):w.rangeAt b off cs:=λj v c=>by have a:=(kzd.1 c).1;obtain⟨b',off',e,-,d⟩:=h (by intro e;rw[e] at a;simp at a);cases e;rw[d j a,<-c,kqg a]
def spNo (x y i:Nat):Prop:=¬ (256<=x/\x<256+8*i/\x%8=0/\y<=8)
def spT (x n y t:Nat):Prop:=¬ (x=n/\y<t)
theorem C5{x y i:Nat}(h:spNo x y i)(b:¬ (x=256+8*i/\y<=8)):spNo x y (i+1):=λ⟨c,h4,d,a⟩=>by
 by_cases e:x<256+8*i
 .exact h ⟨c,e,d,a⟩
 .exact b ⟨by omega,a⟩
theorem sJ(A:Option Addr)(l:List Nat)(c:Nat)(w:World)(g:l.length=8)(i:RdW w w.heap.size A l):
 Calls prog 116 #[.slice A 8 c] w λe a=>e=.returned (.tuple #[spV l,.int .i64 (kC l)])/\Below w.heap.size w a:=by
 obtain⟨Q,R,x,y,T,U,V,Y,a⟩:=Hw g;obtain⟨b,J,rfl,hb,-⟩:=RdW.at_ i (show 0<l.length by omega);obtain⟨u,s,r,G⟩:=yq2 (λh=>ae ((wd l 2:Nat):Int) |>.1 h) (λh=>uD (l:=l) h) (λh=>ny (l:=l) h) (λh=>mD (l:=l) h);have q:Hid (am ((wd l 2:Nat):Int)=true->wd l 3<=8->qy l=decide (spL (wd l 2) (wd l 3)=l)):=y5 λd f=>by
  unfold qy;rw[d,decide_eq_true f];rfl
 obtain⟨t,H8,n,H1⟩:=yq2 (show ∀W,Below w.heap.size w W->W.rangeAt b J (l.flatMap ap) from λW h=>Ep (Rd.below i h)) (show (pt l).size=8 by rw[Cf,g]) (show (l.flatMap ap).length=8 by rw[bU _ 1 cA,g]) (D5 l);have d:=wm (l:=l) (k:=2) (by omega);have f:=wm (l:=l) (k:=3) (by omega);have F:=Bx.new w 126 #[.int .i64 0,.int .i64 0];have X0:=y5 F;have hlt2:Hid (w.heap.size<=w.heap.size+1+1):=y5 (by omega);have m:=y5 ((((kqe w.heap.size w).alloc (kqa _) (.cells #[.int .i64 0,.int .i64 0] 126)).alloc (by simp) (.cells #[.int .i64 0,.int .i64 0] 126)));have o:=Bx.new (w.alloc (.cells #[.int .i64 0,.int .i64 0] 126)) 126 #[.int .i64 0,.int .i64 0];rw[kqm] at o;have B:=y5 o;have z:=Bx.new ((w.alloc (.cells #[.int .i64 0,.int .i64 0] 126)).alloc (.cells #[.int .i64 0,.int .i64 0] 126)) 242 #[.int .u64 0,.int .u64 0,.int .u64 0,.int .u64 0,.int .u64 0,.int .u64 0,.int .u64 0,.int .u64 0];rw[kqm,kqm] at z;obtain⟨C,HL⟩:=yq0 z g;have hzv:=Gb;have D:wd l 2=x:=by rw[a];rfl
 have E:wd l 3=y:=by rw[a];rfl
 have HA:=y5 (show pt l=#[.int .u64 (Q:Int),.int .u64 (R:Int),.int .u64 (x:Int),.int .u64 (y:Int),.int .u64 (T:Int),.int .u64 (U:Int),.int .u64 (V:Int),.int .u64 (Y:Int)] by rw[a];rfl);rw[D] at u s G q d;rw[E] at s G q f;obtain⟨G2,G3⟩:=yq0 d f;have j:Hid ((l.flatMap ap).toArray=pt l):=y5 rfl;have v:(prog.info? 242).map (·.size)=some (l.flatMap ap).length:=by rw[n.out];exact rA
 have Eq:(prog.info? 242).map (·.size)=some (pt l).size:=by rw[H8.out];exact rA
 have Ka:(pt l).size=(#[.int .u64 0,.int .u64 0,.int .u64 0,.int .u64 0,.int .u64 0,.int .u64 0,.int .u64 0,.int .u64 0]:Array Value).size:=H8.out;clear D E i g F o z d f a;obtain⟨cs,a⟩:=xq (l.flatMap ap);rw[a] at t n j v;clear a;go_enter func116,ntmps116;go_wp2_with fail
 go_step3
 go_wp2_with (first
  | ((with_reducible refine at_s2a 242 _ ?_);refine sC rfl (.pointer (some ⟨b,J,none⟩)) (by unfold execOp;simp only[Sem.run_bind,Act.eval,go_sem];rfl) ?_)
  | ((with_reducible refine av 242 (.tmp 13) ?_);refine wpList_load_mid rfl _ _ rfl b J (by rfl) cs _ (t.out _ m.out) underlying242 (by rfl) v ?_;rw[j.out])
  | ((with_reducible refine aj 242 (.tmp 5) _ ?_);refine ai rfl _ _ _ rfl (w.heap.size+1+1) 242 #[.int .u64 0,.int .u64 0,.int .u64 0,.int .u64 0,.int .u64 0,.int .u64 0,.int .u64 0,.int .u64 0] (pt l) (by rfl) (by rfl) C.out Ka Eq H1.out ?_;intro a o f;have d:=y5 o;have i:=y5 f;clear o f))
 go_step3
 obtain⟨z,f,o⟩:=yq1 (i.out.bx ((X0.out.alloc _).alloc _) (by omega)) (i.out.bx (B.out.alloc _) (by omega)) (i.out.below (m.out.alloc (by simp;omega) _) (by omega));have c2:=(d.out.cell 2).trans G2.out;have c3:=(d.out.cell 3).trans G3.out;have hl3:=d.out.lt;clear t n j v C X0 B m i;go_wp2_with fail
 go_loop [6] (λv=>∃i:Nat,i<=225/\v=.int .i64 ((256+8*i:Nat):Int)/\Hid (spNo x y i)) (λv=>4000-(intOf v).toNat)
 case atStart=>exact⟨0,kqv _,rfl,y5 λh=>by omega⟩
 obtain⟨i,hi,rfl,HN⟩:=hrel;obtain⟨n,g⟩:=xq (256+8*i);have m:=y5 g;rw[g];by_cases N:i<225
 .have d1:decide ((n:Int)<=2048)=true:=(by rw[kqh];omega);have d1n:decide (n<=2048)=true:=(by rw[kqh];omega);have w1:IntKind.u64.wrap (n:Int)=(n:Int):=kzi _ (by omega);have w2x:IntKind.i64.wrap ((n:Int)+8)=((n+8:Nat):Int):=by rw[kqo _ (by omega)];omega
  have hn8:n<=2048:=(by omega);clear g;go_wp2_with fail
  go_loop [19] (λv=>∃t:Nat,t<=9/\v=.int .i64 (t:Int)/\Hid (spT x n y t)) (λv=>9-(intOf v).toNat)
  case atStart=>exact⟨0,kqv _,rfl,y5 λh=>by omega⟩
  obtain⟨t,ht,rfl,HT⟩:=hrel;by_cases Kb:t<9
  .have w3x:IntKind.u64.wrap (t:Int)=(t:Int):=kzi _ (by omega);have ht9:(t:Int)<9:=(by omega);by_cases I:x=n
   .subst I;by_cases P:y=t
    .subst P;obtain⟨X,Z,f0,f1,K⟩:=f.out.c2;have C:am (x:Int)=true:=(ae _).2 (by have:=m.out;omega);obtain⟨E,HW⟩:=yq0 (q.out C (by omega)) (λW=>xu x y W (by omega) (by omega));have O:=λW=>Gz x y 0 0 W;rw[show ((x:Int)==0&&(y:Int)==0)=false by rw[show ((x:Int)==0)=false by rw[kqc];have:=m.out;omega];rfl] at O;have j:=λW=>FM (Cc x y) HL.out W;rw[HA.out] at j;obtain⟨AL,B⟩:=xq (pt (spL x y));rw[B] at j HW;obtain⟨HM,F⟩:=yq0 j (show Bx a (w.heap.size+1+1) 242 #[.int .u64 (Q:Int),.int .u64 (R:Int),.int .u64 (x:Int),.int .u64 (y:Int),.int .u64 (T:Int),.int .u64 (U:Int),.int .u64 (V:Int),.int .u64 (Y:Int)] by rw[<-HA.out];exact d.out);clear C B j q s HT HN m ht Kb hi N;go_wp2_with fail;have D:=((f.out.set_ 0 (.int .i64 (x:Int))).set_ 1 (.int .i64 (y:Int)));have B:=(F.out.far (p:=⟨w.heap.size+1,0,none⟩) (by simp) (.int .i64 (x:Int))).far (p:=⟨w.heap.size+1,1,none⟩) (by simp) (.int .i64 (y:Int));have H:=y5 ((z.out.far (p:=⟨w.heap.size+1,0,none⟩) (by simp) (.int .i64 (x:Int))).far (p:=⟨w.heap.size+1,1,none⟩) (by simp) (.int .i64 (y:Int)))
     have j:=y5 ((o.out.setCell (p:=⟨w.heap.size+1,0,none⟩) (by simp) (.int .i64 (x:Int))).setCell (p:=⟨w.heap.size+1,1,none⟩) (by simp) (.int .i64 (y:Int)));obtain⟨L,C⟩:∃L,(a.setCell ⟨w.heap.size+1,0,none⟩ (.int .i64 (x:Int))).setCell ⟨w.heap.size+1,1,none⟩ (.int .i64 (y:Int))=L:=⟨_,rfl⟩;rw[C] at D B H j |-;obtain⟨q0,q1,-⟩:=D.c2;obtain⟨e0,e1,e2,e3,e4,e5,e6,e7⟩:=B.c8;obtain⟨M,X4⟩:=yq0 B D;clear C z f d F o c2 c3 X Z f0 f1 K D B;have hm:∀W,(Op.equalIn 10000 242 (.agg AL) (.agg #[.int .u64 (Q:Int),.int .u64 (R:Int),.int .u64 (x:Int),.int .u64 (y:Int),.int .u64 (T:Int),.int .u64 (U:Int),.int .u64 (V:Int),.int .u64 (Y:Int)])).run prog W=.ok (decide (spL x y=l)) W:=HM.out;obtain⟨dq,B⟩:=xq (decide (spL x y=l));rw[B] at hm E;clear B;cases dq
     all_goals
      go_region_held3 (λX:World=>X.cell? ⟨w.heap.size+1,0,none⟩=some (.int .i64 (x:Int))/\X.cell? ⟨w.heap.size+1,1,none⟩=some (.int .i64 (y:Int))/\X.cell? ⟨w.heap.size+1+1,0,none⟩=some (.int .u64 (Q:Int))/\X.cell? ⟨w.heap.size+1+1,1,none⟩=some (.int .u64 (R:Int))/\X.cell? ⟨w.heap.size+1+1,2,none⟩=some (.int .u64 (x:Int))/\X.cell? ⟨w.heap.size+1+1,3,none⟩=some (.int .u64 (y:Int))/\X.cell? ⟨w.heap.size+1+1,4,none⟩=some (.int .u64 (T:Int))/\X.cell? ⟨w.heap.size+1+1,5,none⟩=some (.int .u64 (U:Int))/\X.cell? ⟨w.heap.size+1+1,6,none⟩=some (.int .u64 (V:Int))/\X.cell? ⟨w.heap.size+1+1,7,none⟩=some (.int .u64 (Y:Int))) (go_keep)
       (first | (go_at_call 174;refine (HW.out _).mono ?_;rintro e w5 ⟨rfl,C⟩;have Z:=(show Bx L.drew _ _ _ from X4.out).up C X4.out.lt;have D:=(show Bx L.drew _ _ _ from M.out).up C M.out.lt;obtain⟨k0,k1,-⟩:=Z.c2;obtain⟨m0,m1,m2,m3,m4,m5,m6,m7⟩:=D.c8;have B:=y5 ((show Bx L.drew _ _ _ from H.out).up C H.out.lt);have K:=y5 (j.out.drew.trans (C.mono j.out.size));clear Z D))
      clear q0 q1 e0 e1 e2 e3 e4 e5 e6 e7 m0 m1 m2 m3 m4 m5 m6 m7;have hg5:=B.out.lt;obtain⟨Z,v1,f0,f1,-⟩:=B.out.c2;go_wp2_with fail;rw[Exit.noGoto_ret]
     .have C:=y5 (r.out E.out);exact kqq (v:=.tuple #[.agg #[.int .i64 0,.int .i64 0],.int .i64 50]) (cN results116 _ ((B.out.set_ 0 _).set_ 1 _) rfl rfl) rfl ⟨by rw[C.out.1,C.out.2],(K.out.setCell (by simp) _).setCell (by simp) _⟩
     have C:=y5 (G.out E.out);exact kqq (v:=.tuple #[.agg #[.int .i64 (x:Int),.int .i64 (y:Int)],.int .i64 0]) (cN results116 _ ((B.out.set_ 0 _).set_ 1 _) rfl rfl) rfl ⟨by rw[C.out.1,C.out.2],(K.out.setCell (by simp) _).setCell (by simp) _⟩
    have e1:((t:Int)==(y:Int))=false:=(by rw[kqc];omega);have D:(t==y)=false:=(by rw[kqc];omega);have B:Hid (spT x x y (t+1)):=y5 λh=>HT.out ⟨rfl,by omega⟩;clear P;go_wp2_with fail
    go_round
    case rel=>exact⟨t+1,by omega,by go_num,B⟩
    case measure=>simp[intOf];omega
   have e1:((n:Int)==(x:Int))=false:=(by rw[kqc];omega);have D:(n==x)=false:=(by rw[kqc];omega);have B:Hid (spT x n y (t+1)):=y5 λh=>I h.1;clear I;go_wp2_with fail
   go_round
   case rel=>exact⟨t+1,by omega,by go_num,B⟩
   case measure=>simp[intOf];omega
  obtain rfl:t=9:=(by omega);have r:Hid (spNo x y (i+1)):=y5 (C5 HN.out λh=>HT.out ⟨by have:=m.out;omega,by omega⟩);go_wp2_with fail
  go_round
  case rel=>exact⟨i+1,by omega,by have:=m.out;go_num,r⟩
  case measure=>simp[intOf];omega
 obtain rfl:i=225:=(by omega);have d1:decide ((n:Int)<=2048)=false:=(by rw[kqb];omega);have d1n:decide (n<=2048)=false:=(by rw[kqb];omega);clear g N;obtain⟨C,F⟩:=yq0 (r.out (s.out λh=>HN.out ⟨by have:=u.out h.1;omega,by have:=u.out h.1;omega,by have:=u.out h.1;omega,h.2⟩)) (show Bx a (w.heap.size+1+1) 242 #[.int .u64 (Q:Int),.int .u64 (R:Int),.int .u64 (x:Int),.int .u64 (y:Int),.int .u64 (T:Int),.int .u64 (U:Int),.int .u64 (V:Int),.int .u64 (Y:Int)] by rw[<-HA.out];exact d.out);have O:=λW=>Gz 0 0 0 0 W;obtain⟨q0,q1,-⟩:=f.out.c2;clear c2 c3;go_wp2_with fail;have ct0:∀g:SW (λX:World=>Below a.heap.size a X),g.w.cell? ⟨w.heap.size+1,0,none⟩=some (.int .i64 0):=λg=>(g.ok.cell (p:=⟨w.heap.size+1,0,none⟩) f.out.lt).trans q0;have ct1:∀g:SW (λX:World=>Below a.heap.size a X),g.w.cell? ⟨w.heap.size+1,1,none⟩=some (.int .i64 0):=λg=>(g.ok.cell (p:=⟨w.heap.size+1,1,none⟩) f.out.lt).trans q1
 refine sm (S:=λX:World=>Below a.heap.size a X) ((0,0,0)::(0,1,0)::(0,2,0)::(0,3,0)::(0,4,0)::(0,6,0)::(1,5,0)::(0,7,0)::(0,8,0)::[]) (.one _ true (none)::.one _ true (none)::.one _ true (none)::.one _ true (none)::.one _ true (some (some 41,false))::.one _ true (some (some 41,false))::.one _ false (some (some 41,false))::.one _ true (some (some 41,false))::.one _ true (none)::[]) (by kernel_rfl) (by kernel_rfl) (by decide) (by kernel_rfl) (by rfl) (λ_ _ d _ _ h=>by cases d<;>exact h) (kqe _ _).drew ?_;have d:=y5 ((kqe a.heap.size a).drew);obtain⟨X0,e⟩:=xq a.drew;rw[e] at d |-;clear e;have hne:Nonempty (SW (λX:World=>Below a.heap.size a X)):=⟨⟨X0,d.out⟩⟩
 iterate 6 (first | (refine jg (by rfl) ?_;(try simp only[Act.put,kqd,kqk,kqj])) | (refine nf (by rfl) ?_;intro K e;go_big_quiet_op;go_big_quiet_on))
 (refine jg (by rfl) ?_;(try simp only[Act.put,kqd,kqk,kqj]))
 iterate 2 (first | (refine jg (by rfl) ?_;(try simp only[Act.put,kqd,kqk,kqj])) | (refine nf (by rfl) ?_;intro K e;go_big_quiet_op;go_big_quiet_on))
 refine Gm ?_;obtain⟨a,j⟩:=yq0 (z.out.up d.out z.out.lt) (o.out.trans (d.out.mono o.out.size));have hg6:=a.out.lt;obtain⟨Z,v1,f0,f1,-⟩:=a.out.c2;clear q0 q1;go_wp2_with fail;rw[Exit.noGoto_ret];exact kqq (v:=.tuple #[.agg #[.int .i64 0,.int .i64 0],.int .i64 50]) (cN results116 _ ((a.out.set_ 0 _).set_ 1 _) rfl rfl) rfl ⟨by rw[C.out.1,C.out.2],(j.out.setCell (by simp) _).setCell (by simp) _⟩
theorem Bx.c4(h:Bx w g t #[x0,x1,x2,x3]):w.cell? ⟨g,0,none⟩=some x0/\w.cell? ⟨g,1,none⟩=some x1/\w.cell? ⟨g,2,none⟩=some x2/\w.cell? ⟨g,3,none⟩=some x3 /\
 w.frozen? ⟨g,0,none⟩=false/\w.frozen? ⟨g,1,none⟩=false/\w.frozen? ⟨g,2,none⟩=false/\w.frozen? ⟨g,3,none⟩=false/\g<w.heap.size:=
 ⟨h.cell 0,h.cell 1,h.cell 2,h.cell 3,h.frozen 0,h.frozen 1,h.frozen 2,h.frozen 3,h.lt⟩
theorem x8(w:World):Calls prog 115 #[] w λe a=>e=.returned (.agg #[.int .i64 0,.int .i64 8])/\Below w.heap.size w a:=by
 have hb:∀W,(Instr.build 179 #[(0,.int .i64 0),(1,.int .i64 8)]).run prog W=.ok (.agg #[.int .i64 0,.int .i64 8]) W:=λ_=>by kernel_rfl
 have a:=Bx.new w 179 #[.int .i64 0,.int .i64 0];obtain⟨q0,q1,f0,f1,hg⟩:=a.c2;go_enter func115,ntmps115;go_wp2_with fail;have b:=Bx.new w 179 #[.int .i64 0,.int .i64 8];obtain⟨p0,p1,-⟩:=b.c2;exact kqq (v:=.agg #[.int .i64 0,.int .i64 8]) (by simp[results,results115,go_sem]) rfl ⟨rfl,(kqe w.heap.size w).alloc (kqa _) _⟩
theorem Ga(l:List Nat):∃a b:Int,spV l=.agg #[.int .i64 a,.int .i64 b]/\(kC l=0->a=((wd l 2:Nat):Int)/\b=((wd l 3:Nat):Int)):=by
 cases h:qy l with
 | true=>exact⟨_,_,(mD h).1,λ_=>⟨rfl,rfl⟩⟩
 | false=>exact⟨0,0,(ny h).1,λc=>by rw[(ny h).2] at c;cases c⟩
theorem De :kC l=0↔qy l=true:=by unfold kC;split<;>simp_all
theorem cp_is(G:List Nat)(a:Nat){y:Int}(b:kC (sp8 G a)=0->x=((wd (sp8 G a) 2:Nat):Int)/\y=((wd (sp8 G a) 3:Nat):Int)):(lF G a=if kC (sp8 G a)=0 then (x==(G.length:Int)) else false)/\(lF G a=true->y=((wd G (a+3):Nat):Int)):=by
 have d:wd (sp8 G a) 2=wd G (a+2):=nr (by omega);have e:wd (sp8 G a) 3=wd G (a+3):=nr (by omega);rw[d,e] at b;have c:lF G a=if kC (sp8 G a)=0 then (x==(G.length:Int)) else false:=by
  unfold lF;by_cases h:kC (sp8 G a)=0
  .rw[if_pos h,De.1 h,kzx,(b h).1,kzk,kqw,kqw];omega
  rw[if_neg h,show qy (sp8 G a)=false by
   cases f:qy (sp8 G a) with
   | false=>rfl
   | true=>exact absurd (De.2 f) h]
  rfl
 refine⟨c,λh=>?_⟩;rw[c] at h;split at h
 .rename_i h2;exact (b h2).2
 cases h
theorem FT(A:Option Addr)(G:List Nat)(c n:Nat)(w:World)(a:G.length=n)(y:n<=9223372036854775807)(z:n<=c)(k:RdW w w.heap.size A G):
 Calls prog 68 #[.slice A n c] w λe b=>C2 G e/\Below w.heap.size w b:=by
 subst a;obtain⟨HR,Eq,d⟩:=yq1 k (λW=>aJ A G.length c W y) (((kqe w.heap.size w).alloc (kqa _) (.cells #[.int .i64 0,.int .i64 0] 126)).alloc (by simp) (.cells #[.bool false,.bool false] 127));have b:=(Bx.new w 126 #[.int .i64 0,.int .i64 0]).alloc (.cells #[.bool false,.bool false] 127);have a:=Bx.new (w.alloc (.cells #[.int .i64 0,.int .i64 0] 126)) 127 #[.bool false,.bool false];rw[kqm] at a;obtain⟨i,h⟩:=yq0 b a;clear b a k;cases f:am (G.length:Int)
 .have HV:=y5 (ti f);rw[bQ f] at Eq;clear f y z;go_enter func68,ntmps68;go_wp2_with fail;refine (Eq.out _).mono ?_;rintro e D ⟨rfl,rfl⟩;obtain⟨a,g⟩:=xq ((w.alloc (.cells #[.int .i64 0,.int .i64 0] 126)).alloc (.cells #[.bool false,.bool false] 127));rw[g] at i h d |-;clear g;obtain⟨v0,v1,f0,f1,hg0⟩:=i.out.c2;obtain⟨v2,v3,f2,f3,C⟩:=h.out.c2;go_wp2_with fail;exact kqq (v:=.tuple #[.agg #[.int .i64 0,.int .i64 0],.agg #[.bool false,.bool false],.int .i64 8]) (dd results68 _ ((((i.out.set_ 0 _).set_ 1 _).far (by simp) _).far (by simp) _) ((((h.out.far (by simp) _).far (by simp) _).set_ 0 _).set_ 1 _) rfl rfl rfl) rfl ⟨⟨0,false,false,by rw[HV.out.1,HV.out.2];rfl⟩,(((d.out.setCell (by simp) _).setCell (by simp) _).setCell (by simp) _).setCell (by simp) _⟩
 have B:=(ae _).1 f;rw[aM f] at Eq;obtain⟨b,off,rfl,x,-⟩:=RdW.at_ HR.out (show 0<G.length by omega);obtain⟨j,m,r,t⟩:=Ga (sp8 G 0);obtain⟨l,o,s,u⟩:=Ga (sp8 G 8);obtain⟨P,Q⟩:=yq0 (cp_is G 0 t) (cp_is G 8 u);have R:=y5 (λW (k:RdW W W.heap.size (some ⟨b,off,none⟩) G)=>sJ (some ⟨b,off,none⟩) (sp8 G 0) c W (tz (by omega)) (by
  have:=AC k 0
  simpa [Addr.add] using this))
 have T:=y5 (λW (k:RdW W W.heap.size (some ⟨b,off,none⟩) G)=>sJ (some ⟨b,off+8,none⟩) (sp8 G 8) (c-8) W (tz (by omega)) (by
  have:=AC k 8
  simpa [Addr.add] using this))
 rw[r] at R;rw[s] at T;have HV:Hid (tyN G=(if lF G 0=true then some (wd G 3) else if lF G 8=true then some (wd G 11) else none)/\jJ G=if (tyN G).isSome=true then 0 else 50):=y5 ⟨rfl,by unfold jJ;rw[if_pos f]⟩;have k3:8<=c:=(by omega);have k4:16<=c:=(by omega);obtain⟨e0,k⟩:=xq (kC (sp8 G 0));obtain⟨e1,q⟩:=xq (kC (sp8 G 8));rw[k] at R P;rw[q] at T Q;clear f B r s t u k q x y z;go_enter func68,ntmps68;go_wp2_with fail;refine (Eq.out _).mono ?_;rintro e D ⟨rfl,rfl⟩;obtain⟨a,g⟩:=xq ((w.alloc (.cells #[.int .i64 0,.int .i64 0] 126)).alloc (.cells #[.bool false,.bool false] 127));rw[g] at i h d |-;clear g;go_wp2_with fail;refine (x8 _).mono ?_;rintro e wS ⟨rfl,f⟩;have s:=(Bx.new a 178 #[.int .i64 0,.int .i64 0,.int .i64 0,.int .i64 0]).alloc (.cells #[.bool false,.bool false] 127);have r:=Bx.new (a.alloc (.cells #[.int .i64 0,.int .i64 0,.int .i64 0,.int .i64 0] 178)) 127 #[.bool false,.bool false];rw[kqm] at r;obtain⟨y,z,X0S,X1S⟩:=yq2 (s.up f s.lt) (r.up f r.lt) (((i.out.alloc (.cells #[.int .i64 0,.int .i64 0,.int .i64 0,.int .i64 0] 178)).alloc (.cells #[.bool false,.bool false] 127)).up f ((i.out.alloc (.cells #[.int .i64 0,.int .i64 0,.int .i64 0,.int .i64 0] 178)).alloc (.cells #[.bool false,.bool false] 127)).lt) (((h.out.alloc (.cells #[.int .i64 0,.int .i64 0,.int .i64 0,.int .i64 0] 178)).alloc (.cells #[.bool false,.bool false] 127)).up f ((h.out.alloc (.cells #[.int .i64 0,.int .i64 0,.int .i64 0,.int .i64 0] 178)).alloc (.cells #[.bool false,.bool false] 127)).lt)
 have q:=d.out.size;have C:=h.out.lt;have Kf:=y5 (((d.out.alloc q (.cells #[.int .i64 0,.int .i64 0,.int .i64 0,.int .i64 0] 178)).alloc (by simp;omega) (.cells #[.bool false,.bool false] 127)).trans (f.mono (by simp;omega)));obtain⟨N,g⟩:=xq (lF G 0);obtain⟨B,k⟩:=xq (lF G 8);rw[g] at P HV;rw[k] at Q HV;clear g k s r f i h d;go_wp2_with fail;have ix0:∀w,(Instr.index 179 (.agg #[.int .i64 0,.int .i64 8]) (.int .i64 0)).run prog w=.ok (.int .i64 0) w:=λ_=>by kernel_rfl
 have ix1:∀w,(Instr.index 179 (.agg #[.int .i64 0,.int .i64 8]) (.int .i64 1)).run prog w=.ok (.int .i64 8) w:=λ_=>by kernel_rfl
 go_loopw [20] (λi wr=>∃k:Nat,k<=2/\i=.int .i64 k/\Hid (Bx wr w.heap.size 126 #[.int .i64 0,.int .i64 0])/\Hid (Bx wr (w.heap.size+1) 127 #[.bool false,.bool false])/\Hid (k=0->Bx wr a.heap.size 178 #[.int .i64 0,.int .i64 0,.int .i64 0,.int .i64 0]/\Bx wr (a.heap.size+1) 127 #[.bool false,.bool false])/\Hid (k=1->Bx wr a.heap.size 178 #[.int .i64 j,.int .i64 m,.int .i64 0,.int .i64 0]/\Bx wr (a.heap.size+1) 127 #[.bool N,.bool false])/\Hid (k=2->Bx wr a.heap.size 178 #[.int .i64 j,.int .i64 m,.int .i64 l,.int .i64 o]/\Bx wr (a.heap.size+1) 127 #[.bool N,.bool B])/\Hid (Below w.heap.size w wr)) (λi _=>2-(intOf i).toNat)
 case atStart=>exact⟨0,kqv _,rfl,X0S,X1S,y5 λ_=>⟨y.out,z.out⟩,y5 λh=>by omega,y5 λh=>by omega,Kf⟩
 obtain⟨k,hk,rfl,L,M,T0,T1,T2,O⟩:=hrel;by_cases h0:k=0
 .subst h0;have y:=y5 (T0.out rfl).1;have z:=y5 (T0.out rfl).2;clear T0 T1 T2;have hz:=O.out.size;have U:=y5 (R.out wr (HR.out.up O.out hz));by_cases W:e0=0
  .have hq:(j==(G.length:Int))=N:=by have:=P.out.1;rw[if_pos W] at this;exact this.symm
   have HQ:=y5 hq;subst W;go_wp2_with fail;refine U.out.mono ?_;rintro e r ⟨rfl,d⟩;have J:=d.size;obtain⟨t,u⟩:=yq0 ((L.out.up d L.out.lt).alloc (.cells #[.int .i64 j,.int .i64 m] 126)) ((M.out.up d M.out.lt).alloc (.cells #[.int .i64 j,.int .i64 m] 126));have f:=((y.out.up d y.out.lt).alloc (.cells #[.int .i64 j,.int .i64 m] 126));have g:=((z.out.up d z.out.lt).alloc (.cells #[.int .i64 j,.int .i64 m] 126));have i:=Bx.new r 126 #[.int .i64 j,.int .i64 m];have s:=y5 ((O.out.trans (d.mono hz)).alloc (kzu hz J) (.cells #[.int .i64 j,.int .i64 m] 126));have Kd:=y.out.lt;have Ke:=z.out.lt;clear d;go_wp2_with fail;obtain⟨C,x⟩:=xq (r.alloc (.cells #[.int .i64 j,.int .i64 m] 126));rw[x] at t u f g i s |-;clear x;obtain⟨q0,q1,-,-,Ka⟩:=i.c2;obtain⟨p0,p1,p2,p3,p4,p5,p6,p7,Kb⟩:=f.c4;obtain⟨s0,s1,s2,s3,Kc⟩:=g.c2;obtain⟨D,E,XS5⟩:=yq1 f g (show Bx C.drew _ _ _ from i);have H:r.heap.size≠a.heap.size:=(by omega);have I:r.heap.size≠a.heap.size+1:=(by omega);clear f g i;have Y:=H.symm;have Z:=I.symm
   first | (go_region_held3 (λX:World=>X.cell? ⟨r.heap.size,0,none⟩=some (.int .i64 j)/\X.cell? ⟨r.heap.size,1,none⟩=some (.int .i64 m)) (go_keep) (fail)) | fail
   clear q0 q1 p0 p1 p2 p3 p4 p5 p6 p7 s0 s1 s2 s3;go_wp2_with fail;obtain⟨Z0,Z1,Z6,Z7,ZB⟩:=yq3 (((t.out.far (p:=⟨a.heap.size,0,none⟩) (by simp;omega) (.int .i64 j)).far (p:=⟨a.heap.size,1,none⟩) (by simp;omega) (.int .i64 m)).far (p:=⟨a.heap.size+1,0,none⟩) (by simp;omega) (.bool N)) (((u.out.far (p:=⟨a.heap.size,0,none⟩) (by simp;omega) (.int .i64 j)).far (p:=⟨a.heap.size,1,none⟩) (by simp;omega) (.int .i64 m)).far (p:=⟨a.heap.size+1,0,none⟩) (by simp;omega) (.bool N)) (((D.out.set_ 0 (.int .i64 j)).set_ 1 (.int .i64 m)).far (p:=⟨a.heap.size+1,0,none⟩) (by simp) (.bool N)) (((E.out.far (p:=⟨a.heap.size,0,none⟩) (by simp) (.int .i64 j)).far (p:=⟨a.heap.size,1,none⟩) (by simp) (.int .i64 m)).set_ 0 (.bool N)) (((s.out.setCell (p:=⟨a.heap.size,0,none⟩) q (.int .i64 j)).setCell (p:=⟨a.heap.size,1,none⟩) q (.int .i64 m)).setCell (p:=⟨a.heap.size+1,0,none⟩) (kk8 q) (.bool N));go_roundw
   case rel=>exact⟨1,by omega,by go_num,Z0,Z1,y5 λh=>absurd h (by decide),y5 λh=>⟨Z6.out,Z7.out⟩,y5 λh=>absurd h (by decide),y5 ZB.out.drew⟩
   case measure=>simp[intOf]
  have hq:N=false:=by have:=P.out.1;rw[if_neg W] at this;exact this
  subst hq;have Ki:(e0==0)=false:=by rw[kqc];exact W
  clear W;go_wp2_with fail;refine U.out.mono ?_;rintro e r ⟨rfl,d⟩;have J:=d.size;obtain⟨t,u⟩:=yq0 ((L.out.up d L.out.lt).alloc (.cells #[.int .i64 j,.int .i64 m] 126)) ((M.out.up d M.out.lt).alloc (.cells #[.int .i64 j,.int .i64 m] 126));have f:=((y.out.up d y.out.lt).alloc (.cells #[.int .i64 j,.int .i64 m] 126));have g:=((z.out.up d z.out.lt).alloc (.cells #[.int .i64 j,.int .i64 m] 126));have i:=Bx.new r 126 #[.int .i64 j,.int .i64 m];have s:=y5 ((O.out.trans (d.mono hz)).alloc (kzu hz J) (.cells #[.int .i64 j,.int .i64 m] 126));have Kd:=y.out.lt;have Ke:=z.out.lt;clear d;go_wp2_with fail;obtain⟨C,x⟩:=xq (r.alloc (.cells #[.int .i64 j,.int .i64 m] 126));rw[x] at t u f g i s |-;clear x;obtain⟨q0,q1,-,-,Ka⟩:=i.c2;obtain⟨p0,p1,p2,p3,p4,p5,p6,p7,Kb⟩:=f.c4;obtain⟨s0,s1,s2,s3,Kc⟩:=g.c2;obtain⟨D,E,XS5⟩:=yq1 f g (show Bx C.drew _ _ _ from i);have H:r.heap.size≠a.heap.size:=(by omega);have I:r.heap.size≠a.heap.size+1:=(by omega);clear f g i;have Y:=H.symm;have Z:=I.symm;refine kz4 (S:=λX:World=>X.cell? ⟨r.heap.size,0,none⟩=some (.int .i64 j)/\X.cell? ⟨r.heap.size,1,none⟩=some (.int .i64 m)) (by kernel_rfl) ⟨q0,q1⟩ (λF=>?_);show wpAnyH _ _ _ _ _ 16 _ _ _;refine tj 0 (.int .i64 0) ?_;refine tj 1 (.int .i64 0) ?_;refine tj 2 (.agg #[.int .i64 j,.int .i64 m]) ?_;refine tj 3 (.int .i64 e0) ?_;refine tj 4 (.bool false) ?_;refine tj 5 (.bool false) ?_;refine sk 6 ?_;refine sk 7 ?_;refine sk 8 ?_;refine sk 9 ?_;refine sk 10 ?_;refine tj 11 (.bool false) ?_;refine tj 12 (.pointer (some ⟨a.heap.size,0,none⟩)) ?_;refine kzr (rs:=[13]) (by kernel_rfl) (by simp) ?_;refine AllReadyH.cons rfl (λK V=>?_) AllReadyH.nil;go_simp;refine V.out _ _ ⟨by go_keep,by go_keep⟩ ?_;clear V K;intro Kg;refine tj 14 (.pointer (some ⟨a.heap.size+1,0,none⟩)) ?_
  dsimp only[Act.put,kqr,kqn,kql,kqd,kqk,kqj];refine kzr (rs:=[15]) (by kernel_rfl) (by simp) ?_;refine AllReadyH.cons rfl (λK V=>?_) AllReadyH.nil;go_simp;refine V.out _ _ ⟨by go_keep,by go_keep⟩ ?_;clear V K;intro Kh;refine kx0 (by kernel_rfl) ?_ _;clear F;clear q0 q1 p0 p1 p2 p3 p4 p5 p6 p7 s0 s1 s2 s3;go_wp2_with fail;obtain⟨Z0,Z1,Z6,Z7,ZB⟩:=yq3 (((t.out.far (p:=⟨a.heap.size,0,none⟩) (by simp;omega) (.int .i64 j)).far (p:=⟨a.heap.size,1,none⟩) (by simp;omega) (.int .i64 m)).far (p:=⟨a.heap.size+1,0,none⟩) (by simp;omega) (.bool false)) (((u.out.far (p:=⟨a.heap.size,0,none⟩) (by simp;omega) (.int .i64 j)).far (p:=⟨a.heap.size,1,none⟩) (by simp;omega) (.int .i64 m)).far (p:=⟨a.heap.size+1,0,none⟩) (by simp;omega) (.bool false)) (((D.out.set_ 0 (.int .i64 j)).set_ 1 (.int .i64 m)).far (p:=⟨a.heap.size+1,0,none⟩) (by simp) (.bool false)) (((E.out.far (p:=⟨a.heap.size,0,none⟩) (by simp) (.int .i64 j)).far (p:=⟨a.heap.size,1,none⟩) (by simp) (.int .i64 m)).set_ 0 (.bool false)) (((s.out.setCell (p:=⟨a.heap.size,0,none⟩) q (.int .i64 j)).setCell (p:=⟨a.heap.size,1,none⟩) q (.int .i64 m)).setCell (p:=⟨a.heap.size+1,0,none⟩) (kk8 q) (.bool false));go_roundw
  case rel=>exact⟨1,by omega,by go_num,Z0,Z1,y5 λh=>absurd h (by decide),y5 λh=>⟨Z6.out,Z7.out⟩,y5 λh=>absurd h (by decide),y5 ZB.out.drew⟩
  case measure=>simp[intOf]
 by_cases h1:k=1
 .subst h1;have y:=y5 (T1.out rfl).1;have z:=y5 (T1.out rfl).2;clear T0 T1 T2;have hz:=O.out.size;have U:=y5 (T.out wr (HR.out.up O.out hz));by_cases W:e1=0
  .have hq:(l==(G.length:Int))=B:=by have:=Q.out.1;rw[if_pos W] at this;exact this.symm
   have HQ:=y5 hq;subst W;go_wp2_with fail;refine U.out.mono ?_;rintro e r ⟨rfl,d⟩;have J:=d.size;obtain⟨t,u⟩:=yq0 ((L.out.up d L.out.lt).alloc (.cells #[.int .i64 l,.int .i64 o] 126)) ((M.out.up d M.out.lt).alloc (.cells #[.int .i64 l,.int .i64 o] 126));have f:=((y.out.up d y.out.lt).alloc (.cells #[.int .i64 l,.int .i64 o] 126));have g:=((z.out.up d z.out.lt).alloc (.cells #[.int .i64 l,.int .i64 o] 126));have i:=Bx.new r 126 #[.int .i64 l,.int .i64 o];have s:=y5 ((O.out.trans (d.mono hz)).alloc (kzu hz J) (.cells #[.int .i64 l,.int .i64 o] 126));have Kd:=y.out.lt;have Ke:=z.out.lt;clear d;go_wp2_with fail;obtain⟨C,x⟩:=xq (r.alloc (.cells #[.int .i64 l,.int .i64 o] 126));rw[x] at t u f g i s |-;clear x;obtain⟨q0,q1,-,-,Ka⟩:=i.c2;obtain⟨p0,p1,p2,p3,p4,p5,p6,p7,Kb⟩:=f.c4;obtain⟨s0,s1,s2,s3,Kc⟩:=g.c2;obtain⟨D,E,XS5⟩:=yq1 f g (show Bx C.drew _ _ _ from i);have H:r.heap.size≠a.heap.size:=(by omega);have I:r.heap.size≠a.heap.size+1:=(by omega);clear f g i;have Y:=H.symm;have Z:=I.symm
   first | (go_region_held3 (λX:World=>X.cell? ⟨r.heap.size,0,none⟩=some (.int .i64 l)/\X.cell? ⟨r.heap.size,1,none⟩=some (.int .i64 o)) (go_keep) (fail)) | fail
   clear q0 q1 p0 p1 p2 p3 p4 p5 p6 p7 s0 s1 s2 s3;go_wp2_with fail;obtain⟨Z0,Z1,Z6,Z7,ZB⟩:=yq3 (((t.out.far (p:=⟨a.heap.size,2,none⟩) (by simp;omega) (.int .i64 l)).far (p:=⟨a.heap.size,3,none⟩) (by simp;omega) (.int .i64 o)).far (p:=⟨a.heap.size+1,1,none⟩) (by simp;omega) (.bool B)) (((u.out.far (p:=⟨a.heap.size,2,none⟩) (by simp;omega) (.int .i64 l)).far (p:=⟨a.heap.size,3,none⟩) (by simp;omega) (.int .i64 o)).far (p:=⟨a.heap.size+1,1,none⟩) (by simp;omega) (.bool B)) (((D.out.set_ 2 (.int .i64 l)).set_ 3 (.int .i64 o)).far (p:=⟨a.heap.size+1,1,none⟩) (by simp) (.bool B)) (((E.out.far (p:=⟨a.heap.size,2,none⟩) (by simp) (.int .i64 l)).far (p:=⟨a.heap.size,3,none⟩) (by simp) (.int .i64 o)).set_ 1 (.bool B)) (((s.out.setCell (p:=⟨a.heap.size,2,none⟩) q (.int .i64 l)).setCell (p:=⟨a.heap.size,3,none⟩) q (.int .i64 o)).setCell (p:=⟨a.heap.size+1,1,none⟩) (kk8 q) (.bool B));go_roundw
   case rel=>exact⟨2,by omega,by go_num,Z0,Z1,y5 λh=>absurd h (by decide),y5 λh=>absurd h (by decide),y5 λh=>⟨Z6.out,Z7.out⟩,y5 ZB.out.drew⟩
   case measure=>simp[intOf]
  have hq:B=false:=by have:=Q.out.1;rw[if_neg W] at this;exact this
  subst hq;have Ki:(e1==0)=false:=by rw[kqc];exact W
  clear W;go_wp2_with fail;refine U.out.mono ?_;rintro e r ⟨rfl,d⟩;have J:=d.size;obtain⟨t,u⟩:=yq0 ((L.out.up d L.out.lt).alloc (.cells #[.int .i64 l,.int .i64 o] 126)) ((M.out.up d M.out.lt).alloc (.cells #[.int .i64 l,.int .i64 o] 126));have f:=((y.out.up d y.out.lt).alloc (.cells #[.int .i64 l,.int .i64 o] 126));have g:=((z.out.up d z.out.lt).alloc (.cells #[.int .i64 l,.int .i64 o] 126));have i:=Bx.new r 126 #[.int .i64 l,.int .i64 o];have s:=y5 ((O.out.trans (d.mono hz)).alloc (kzu hz J) (.cells #[.int .i64 l,.int .i64 o] 126));have Kd:=y.out.lt;have Ke:=z.out.lt;clear d;go_wp2_with fail;obtain⟨C,x⟩:=xq (r.alloc (.cells #[.int .i64 l,.int .i64 o] 126));rw[x] at t u f g i s |-;clear x;obtain⟨q0,q1,-,-,Ka⟩:=i.c2;obtain⟨p0,p1,p2,p3,p4,p5,p6,p7,Kb⟩:=f.c4;obtain⟨s0,s1,s2,s3,Kc⟩:=g.c2;obtain⟨D,E,XS5⟩:=yq1 f g (show Bx C.drew _ _ _ from i);have H:r.heap.size≠a.heap.size:=(by omega);have I:r.heap.size≠a.heap.size+1:=(by omega);clear f g i;have Y:=H.symm;have Z:=I.symm;refine kz4 (S:=λX:World=>X.cell? ⟨r.heap.size,0,none⟩=some (.int .i64 l)/\X.cell? ⟨r.heap.size,1,none⟩=some (.int .i64 o)) (by kernel_rfl) ⟨q0,q1⟩ (λF=>?_);show wpAnyH _ _ _ _ _ 16 _ _ _;refine tj 0 (.int .i64 1) ?_;refine tj 1 (.int .i64 1) ?_;refine tj 2 (.agg #[.int .i64 l,.int .i64 o]) ?_;refine tj 3 (.int .i64 e1) ?_;refine tj 4 (.bool false) ?_;refine tj 5 (.bool false) ?_;refine sk 6 ?_;refine sk 7 ?_;refine sk 8 ?_;refine sk 9 ?_;refine sk 10 ?_;refine tj 11 (.bool false) ?_;refine tj 12 (.pointer (some ⟨a.heap.size,2,none⟩)) ?_;refine kzr (rs:=[13]) (by kernel_rfl) (by simp) ?_;refine AllReadyH.cons rfl (λK V=>?_) AllReadyH.nil;go_simp;refine V.out _ _ ⟨by go_keep,by go_keep⟩ ?_;clear V K;intro Kg;refine tj 14 (.pointer (some ⟨a.heap.size+1,1,none⟩)) ?_
  dsimp only[Act.put,kqr,kqn,kql,kqd,kqk,kqj];refine kzr (rs:=[15]) (by kernel_rfl) (by simp) ?_;refine AllReadyH.cons rfl (λK V=>?_) AllReadyH.nil;go_simp;refine V.out _ _ ⟨by go_keep,by go_keep⟩ ?_;clear V K;intro Kh;refine kx0 (by kernel_rfl) ?_ _;clear F;clear q0 q1 p0 p1 p2 p3 p4 p5 p6 p7 s0 s1 s2 s3;go_wp2_with fail;obtain⟨Z0,Z1,Z6,Z7,ZB⟩:=yq3 (((t.out.far (p:=⟨a.heap.size,2,none⟩) (by simp;omega) (.int .i64 l)).far (p:=⟨a.heap.size,3,none⟩) (by simp;omega) (.int .i64 o)).far (p:=⟨a.heap.size+1,1,none⟩) (by simp;omega) (.bool false)) (((u.out.far (p:=⟨a.heap.size,2,none⟩) (by simp;omega) (.int .i64 l)).far (p:=⟨a.heap.size,3,none⟩) (by simp;omega) (.int .i64 o)).far (p:=⟨a.heap.size+1,1,none⟩) (by simp;omega) (.bool false)) (((D.out.set_ 2 (.int .i64 l)).set_ 3 (.int .i64 o)).far (p:=⟨a.heap.size+1,1,none⟩) (by simp) (.bool false)) (((E.out.far (p:=⟨a.heap.size,2,none⟩) (by simp) (.int .i64 l)).far (p:=⟨a.heap.size,3,none⟩) (by simp) (.int .i64 o)).set_ 1 (.bool false)) (((s.out.setCell (p:=⟨a.heap.size,2,none⟩) q (.int .i64 l)).setCell (p:=⟨a.heap.size,3,none⟩) q (.int .i64 o)).setCell (p:=⟨a.heap.size+1,1,none⟩) (kk8 q) (.bool false));go_roundw
  case rel=>exact⟨2,by omega,by go_num,Z0,Z1,y5 λh=>absurd h (by decide),y5 λh=>absurd h (by decide),y5 λh=>⟨Z6.out,Z7.out⟩,y5 ZB.out.drew⟩
  case measure=>simp[intOf]
 have d:k=2:=(by omega);subst d;have y:=y5 (T2.out rfl).1;have z:=y5 (T2.out rfl).2;obtain⟨p0,p1,p2,p3,-,-,-,-,-⟩:=y.out.c4;obtain⟨s0,s1,-⟩:=z.out.c2;have hgy0:=L.out.lt;have hgy1:=M.out.lt;obtain⟨v0,v1,f0,f1,-⟩:=L.out.c2;obtain⟨v2,v3,f2,f3,-⟩:=M.out.c2;clear T0 T1 T2;have n1:w.heap.size≠a.heap.size:=(by omega);have n2:w.heap.size≠a.heap.size+1:=(by omega);have n3:w.heap.size+1≠a.heap.size:=by omega
 cases N
 .cases B
  .have e:Hid (tyN G=none/\jJ G=50):=y5 (by have:=HV.out;simp at this;exact⟨this.1,by rw[this.2,this.1];rfl⟩);go_wp2_with fail;exact kqq (v:=.tuple #[.agg #[.int .i64 0,.int .i64 0],.agg #[.bool false,.bool false],.int .i64 50]) (dd results68 _ (show Bx _ _ _ _ from (((L.out.set_ 0 (.int .i64 0)).set_ 1 (.int .i64 0)).far (p:=⟨w.heap.size+1,0,none⟩) (by simp) (.bool false)).far (p:=⟨w.heap.size+1,1,none⟩) (by simp) (.bool false)) (show Bx _ _ _ _ from (((M.out.far (p:=⟨w.heap.size,0,none⟩) (by simp) (.int .i64 0)).far (p:=⟨w.heap.size,1,none⟩) (by simp) (.int .i64 0)).set_ 0 (.bool false)).set_ 1 (.bool false)) rfl rfl rfl) rfl ⟨⟨0,false,false,by rw[e.out.1,e.out.2];rfl⟩,(((O.out.setCell (p:=⟨w.heap.size,0,none⟩) (kqa _) (.int .i64 0)).setCell (p:=⟨w.heap.size,1,none⟩) (kqa _) (.int .i64 0)).setCell (p:=⟨w.heap.size+1,0,none⟩) (kje _) (.bool false)).setCell (p:=⟨w.heap.size+1,1,none⟩) (kje _) (.bool false)⟩
  have d:o=((wd G 11:Nat):Int):=Q.out.2 rfl;have e:Hid (tyN G=some (wd G 11)/\jJ G=0):=y5 (by have:=HV.out;simp at this;exact⟨this.1,by rw[this.2,this.1];rfl⟩);have f:=y5 d;clear d;go_wp2_with fail
  go_region_held3 (λX:World=>X.cell? ⟨a.heap.size,2,none⟩=some (.int .i64 l)/\X.cell? ⟨a.heap.size,3,none⟩=some (.int .i64 o)/\X.cell? ⟨a.heap.size+1,0,none⟩=some (.bool false)/\X.cell? ⟨a.heap.size+1,1,none⟩=some (.bool true)) (go_keep) (fail)
  go_wp2_with fail;exact kqq (v:=.tuple #[.agg #[.int .i64 l,.int .i64 o],.agg #[.bool false,.bool true],.int .i64 0]) (dd results68 _ (show Bx _ _ _ _ from (((L.out.set_ 0 (.int .i64 l)).set_ 1 (.int .i64 o)).far (p:=⟨w.heap.size+1,0,none⟩) (by simp) (.bool false)).far (p:=⟨w.heap.size+1,1,none⟩) (by simp) (.bool true)) (show Bx _ _ _ _ from (((M.out.far (p:=⟨w.heap.size,0,none⟩) (by simp) (.int .i64 l)).far (p:=⟨w.heap.size,1,none⟩) (by simp) (.int .i64 o)).set_ 0 (.bool false)).set_ 1 (.bool true)) rfl rfl rfl) rfl ⟨⟨l,false,true,by rw[e.out.1,e.out.2,f.out];rfl⟩,((((O.out.setCell (p:=⟨w.heap.size,0,none⟩) (kqa _) (.int .i64 l)).setCell (p:=⟨w.heap.size,1,none⟩) (kqa _) (.int .i64 o)).setCell (p:=⟨w.heap.size+1,0,none⟩) (kje _) (.bool false)).setCell (p:=⟨w.heap.size+1,1,none⟩) (kje _) (.bool true)).drew⟩
 have d:m=((wd G 3:Nat):Int):=P.out.2 rfl;have e:Hid (tyN G=some (wd G 3)/\jJ G=0):=y5 (by have:=HV.out;simp at this;exact⟨this.1,by rw[this.2,this.1];rfl⟩);have f:=y5 d;clear d;go_wp2_with fail
 go_region_held3 (λX:World=>X.cell? ⟨a.heap.size,0,none⟩=some (.int .i64 j)/\X.cell? ⟨a.heap.size,1,none⟩=some (.int .i64 m)/\X.cell? ⟨a.heap.size+1,0,none⟩=some (.bool true)/\X.cell? ⟨a.heap.size+1,1,none⟩=some (.bool B)) (go_keep) (fail)
 go_wp2_with fail;exact kqq (v:=.tuple #[.agg #[.int .i64 j,.int .i64 m],.agg #[.bool true,.bool B],.int .i64 0]) (dd results68 _ (show Bx _ _ _ _ from (((L.out.set_ 0 (.int .i64 j)).set_ 1 (.int .i64 m)).far (p:=⟨w.heap.size+1,0,none⟩) (by simp) (.bool true)).far (p:=⟨w.heap.size+1,1,none⟩) (by simp) (.bool B)) (show Bx _ _ _ _ from (((M.out.far (p:=⟨w.heap.size,0,none⟩) (by simp) (.int .i64 j)).far (p:=⟨w.heap.size,1,none⟩) (by simp) (.int .i64 m)).set_ 0 (.bool true)).set_ 1 (.bool B)) rfl rfl rfl) rfl ⟨⟨j,true,B,by rw[e.out.1,e.out.2,f.out];rfl⟩,((((O.out.setCell (p:=⟨w.heap.size,0,none⟩) (kqa _) (.int .i64 j)).setCell (p:=⟨w.heap.size,1,none⟩) (kqa _) (.int .i64 m)).setCell (p:=⟨w.heap.size+1,0,none⟩) (kje _) (.bool true)).setCell (p:=⟨w.heap.size+1,1,none⟩) (kje _) (.bool B)).drew⟩
end Go.Proofs.YtpcajamacpbjcaaGreat
