/- Texts laid together: Img2 Ref14 Ref14S Ref15 Ref15F. -/
import Derived.Test.YtpcajamacpbjcaaGreatZKHead
import Derived.Test.YtpcajamacpbjcaaGreatZKRefs
set_option maxHeartbeats 16000000
set_option maxRecDepth 100000
set_option linter.all false
namespace Go.Proofs.YtpcajamacpbjcaaGreat
open Lib (hid)
open Go.RowKit
variable {ws:List Nat}{a g:Nat}{w w':World}
open Go.Proofs.Tryz
theorem rQ(n:Nat)(w:World)(hn:n<=9223372036854775807):Calls prog 148 #[.int .i64 (n:Int)] w λe w'=>e=.returned (.bool (aj (n:Int)))/\w=w':=by
 have H:Hid (∀b:Bool,(b=true↔256<=n/\n<=2048/\n%8=0)->b=aj (n:Int)):=hid λb h=>by rw[kzg,aa,h];omega
 go_enter func148,ntmps148;go_wp2_with fail
 all_goals
  go_ret;exact⟨ji (H.out _ (by simp;omega)),rfl⟩
theorem lX(A:Option Addr)(n c:Nat)(w:World)(hn:n<=9223372036854775807):Calls prog 92 #[.slice A n c] w λe w'=>e=.returned (.int .i64 (kq n))/\w=w':=by
 cases a:aj (n:Int)
 all_goals
  first
   | have b:=hid (aX a)
   | have b:=hid (bD a)
  have d:=hid a;clear a;go_enter func92,ntmps92;go_wp2_with fail;refine (rQ n w hn).mono ?_;rintro e w1 ⟨rfl,rfl⟩;rw[d.out];go_wp2;go_ret;exact⟨by rw[b.out];rfl,rfl⟩
theorem rh(b:Bk)(w:World):Calls prog 291 #[b.val] w λe w'=>e=.returned (.int .i64 (iX b))/\Below w.heap.size w w':=by
 obtain⟨xa,xs,xk,xt,a,xn⟩:=b;unfold Bk.val;cases a
 all_goals
  go_enter func291,ntmps291;go_wp2_with fail
  all_goals
   go_ret;refine⟨?_,(kql _ _).alloc (kqd _) _⟩;(try simp only[ne_eq,kqw,kqi,kx2,kkt,kqh,kzc] at *)
   first
    | (exfalso;omega)
    | exact mn (zr (by simp only[reduceCtorEq,and_false,false_and,or_false,true_and];omega))
    | exact mn (yy (by simp only[reduceCtorEq,and_false,false_and,or_false,true_and];omega))
theorem Ht(xa:Int)(S K T:Nat)(m:Bool)(xn:Nat)(w:World)(h1:K<256)(h2:T<128)(h3:S<65536):
 Calls prog 292 #[.agg #[.int .i64 xa,.int .i64 (S:Int),.int .i64 (K:Int),.int .i64 (T:Int),.bool m,.int .u64 (xn:Int)]] w λe w'=>e=.returned (.int .u64 ((cR ⟨xa,(S:Int),(K:Int),(T:Int),m,xn⟩:Nat):Int))/\Below w.heap.size w w':=by have f:=hid (λW=>nc K T S m W h1 h2 h3);have c:Hid (cR ⟨xa,(S:Int),(K:Int),(T:Int),m,xn⟩=K+nQ m*256+T*512+S*65536+gM (K+nQ m*256+T*512+S*65536)%4294967296*4294967296):=hid rfl;obtain⟨V,d⟩:=xq (K+nQ m*256+T*512+S*65536+gM (K+nQ m*256+T*512+S*65536)%4294967296*4294967296);rw[d] at f c;rw[c.out];clear d;go_enter func292,ntmps292;go_wp2_with fail;refine (f.out _).mono ?_;rintro e w1 ⟨rfl,a⟩;rw[kqm] at a;have b:=av a;clear a;go_wp2;go_ret;exact⟨rfl,b⟩
theorem xM(x:Nat)(w:World)(hx:x<18446744073709551616):Calls prog 274 #[.int .u64 (x:Int)] w λe w'=>e=.returned (.tuple #[(Cv x).val,.bool (aB x)])/\Below w.heap.size w w':=by
 have d:=hid (λW=>rh (ar x) W);have I:Hid (iX (ar x)=0->cR (ar x)=x->Cv x=ar x/\aB x=true):=hid λh1 h2=>by
  have hb:iY (ar x)=true:=by
   cases Y:iY (ar x) with
   | true=>rfl
   | false=>rw[mq Y] at h1;cases h1
  have:aB x=true:=by simp[aB,hb,h2]
  exact⟨(lS this).1,this⟩
 have A:Hid (iX (ar x)≠0\/cR (ar x)≠x->Cv x=mf/\aB x=false):=hid λh=>by
  have:aB x=false:=by
   cases Y:iY (ar x) with
   | false=>simp[aB,Y]
   | true =>
    rcases h with h|h
    .exact absurd (iR Y) h
    simp[aB,Y,h]
  exact⟨(lM this).1,this⟩
 have hx0:(0:Int)<=(x:Int):=by omega
 have i:(ar x).val=.agg #[.int .i64 0,.int .i64 ((x/65536%65536:Nat):Int),.int .i64 ((x%256:Nat):Int),.int .i64 ((x/512%128:Nat):Int),.bool (x/256%2==1),.int .u64 0]:=rfl;have m1:x%256<256:=kz0 _ (by omega);have m2:x/256%2<2:=kz0 _ (by omega);have m3:x/512%128<128:=kz0 _ (by omega);have m4:x/65536%65536<65536:=kz0 _ (by omega);have t:=hid (λW=>jo x 0 8 W hx (by omega));have B:=hid (λW=>jo x 8 1 W hx (by omega));have z:=hid (λW=>jo x 9 7 W hx (by omega));have y:=hid (λW=>jo x 16 16 W hx (by omega));rw[show bB x 0 8=x%256 by simp[bB]] at t;rw[show bB x 8 1=x/256%2 from rfl] at B;rw[show bB x 9 7=x/512%128 from rfl] at z;rw[show bB x 16 16=x/65536%65536 from rfl] at y;have c:=hid (λW=>Ht 0 (x/65536%65536) (x%256) (x/512%128) (x/256%2==1) 0 W m1 m3 m4);rw[show (⟨0,((x/65536%65536:Nat):Int),((x%256:Nat):Int),((x/512%128:Nat):Int),(x/256%2==1),0⟩:Bk)=ar x from rfl] at c;rw[i] at d;have a:=hid i;have j:((((x/256%2:Nat):Int))==1)=(x/256%2==1):=by rw[kzg,kqw,kqw];omega
 obtain⟨K,hK⟩:=xq (x%256);obtain⟨M,hM⟩:=xq (x/256%2);obtain⟨T,hT⟩:=xq (x/512%128);obtain⟨S,hS⟩:=xq (x/65536%65536);rw[hK] at m1 t d c a;rw[hM] at m2 j B d c a;rw[hT] at m3 z d c a;rw[hS] at m4 y d c a;obtain⟨C,J⟩:=xq ((M==1));rw[J] at j d c a;obtain⟨V,q⟩:=xq (cR (ar x));obtain⟨R,k⟩:=xq (iX (ar x));rw[q,k] at I A;rw[k] at d;rw[q] at c;clear hx i hK hM hT hS J q k;go_enter func274,ntmps274;go_wp2_with fail;refine (t.out _).mono ?_;rintro e D ⟨rfl,rfl⟩;go_wp2_with fail;refine (B.out _).mono ?_;rintro e D ⟨rfl,rfl⟩;go_wp2_with fail;refine (z.out _).mono ?_;rintro e D ⟨rfl,rfl⟩;go_wp2_with fail;refine (y.out _).mono ?_;rintro e D ⟨rfl,rfl⟩;go_wp2_with fail;have m:=(Bx.new w 55 #[.int .i64 0,.int .i64 0,.int .i64 0,.int .i64 0,.bool false,.int .u64 0]).alloc (.cells #[.int .i64 0,.int .i64 (S:Int),.int .i64 (K:Int),.int .i64 (T:Int),.bool C,.int .u64 0] 55);have l:=Bx.new (w.alloc (.cells #[.int .i64 0,.int .i64 0,.int .i64 0,.int .i64 0,.bool false,.int .u64 0] 55)) 55 #[.int .i64 0,.int .i64 (S:Int),.int .i64 (K:Int),.int .i64 (T:Int),.bool C,.int .u64 0]
 have n:Below w.heap.size w ((w.alloc (.cells #[.int .i64 0,.int .i64 0,.int .i64 0,.int .i64 0,.bool false,.int .u64 0] 55)).alloc (.cells #[.int .i64 0,.int .i64 (S:Int),.int .i64 (K:Int),.int .i64 (T:Int),.bool C,.int .u64 0] 55)):=((kql _ _).alloc (kqd _) _).alloc (by simp) _;have Q:((w.alloc (.cells #[.int .i64 0,.int .i64 0,.int .i64 0,.int .i64 0,.bool false,.int .u64 0] 55)).alloc (.cells #[.int .i64 0,.int .i64 (S:Int),.int .i64 (K:Int),.int .i64 (T:Int),.bool C,.int .u64 0] 55)).heap.size=w.heap.size+2:=by simp
 rw[kqm] at l;obtain⟨Z,L⟩:∃Z,(w.alloc (.cells #[.int .i64 0,.int .i64 0,.int .i64 0,.int .i64 0,.bool false,.int .u64 0] 55)).alloc (.cells #[.int .i64 0,.int .i64 (S:Int),.int .i64 (K:Int),.int .i64 (T:Int),.bool C,.int .u64 0] 55)=Z:=⟨_,rfl⟩;rw[L] at m l n Q |-;clear L;refine (d.out Z).mono ?_;rintro e D ⟨rfl,g⟩;have u:=n.trans (g.mono n.size);replace m:=m.up g (by omega);replace l:=l.up g (by omega);have hz1:w.heap.size+2<=D.heap.size:=by have:=g.size;omega
 obtain⟨c0,c1,c2,c3,c4,c5,f,cz⟩:=m.c6;obtain⟨d0,d1,d2,d3,d4,d5,df,dz⟩:=l.c6;have Q0:=hid m;have Q1:=hid l;have X:=f 0;have U:=f 1;have F:=f 2;have N:=f 3;have E:=f 4;have H:=f 5;clear m l g n Q df f j m1 m2 m3 m4;by_cases k:R=0
 .have Eq:(R != 0)=false:=by rw[kqq];exact k
  have Jb:=hid k;clear k X U F N E H c0 c1 c2 c3 c4 c5;go_wp2_with fail;refine (c.out D).mono ?_;rintro e w2 ⟨rfl,o⟩;have P:=u.trans (o.mono u.size);have m:=Q0.out.up o (by omega);have l:=Q1.out.up o (by omega);clear d0 d1 d2 d3 d4 d5;obtain⟨c0,c1,c2,c3,c4,c5,f,cz⟩:=m.c6;obtain⟨d0,d1,d2,d3,d4,d5,df,dz⟩:=l.c6;have P0:=hid m;have X:=f 0;have U:=f 1;have F:=f 2;have N:=f 3;have E:=f 4;have H:=f 5;clear m l o df f;by_cases q:V=x
  .obtain ⟨r,s⟩:=I.out Jb.out q;have O:=hid r;have G:=hid s;have Ja:((V:Int) != (x:Int))=false:=by rw[kqq];omega
   clear q r s;go_wp2_with fail;refine kqr (v:=.tuple #[.agg #[.int .i64 0,.int .i64 (S:Int),.int .i64 (K:Int),.int .i64 (T:Int),.bool C,.int .u64 0],.bool true]) (aR results274 _ ((((((P0.out.set_ 0 _).set_ 1 _).set_ 2 _).set_ 3 _).set_ 4 _).set_ 5 _) rfl rfl) rfl ⟨by rw[O.out,G.out,a.out],?_⟩;exact (kze (p:=⟨w.heap.size,5,none⟩) (kze (p:=⟨w.heap.size,4,none⟩) (kze (p:=⟨w.heap.size,3,none⟩) (kze (p:=⟨w.heap.size,2,none⟩) (kze (p:=⟨w.heap.size,1,none⟩) (kze (p:=⟨w.heap.size,0,none⟩) P (kqd _) _) (kqd _) _) (kqd _) _) (kqd _) _) (kqd _) _) (kqd _) _)
  obtain⟨r,s⟩:=A.out (.inr q);have O:=hid r;have G:=hid s;have Ja:((V:Int) != (x:Int))=true:=by rw[kqv];omega
  clear q r s;go_wp2_with fail;refine kqr (v:=.tuple #[.agg #[.int .i64 0,.int .i64 0,.int .i64 0,.int .i64 0,.bool false,.int .u64 0],.bool false]) (aR results274 _ ((((((P0.out.set_ 0 _).set_ 1 _).set_ 2 _).set_ 3 _).set_ 4 _).set_ 5 _) rfl rfl) rfl ⟨by rw[O.out,G.out];rfl,?_⟩;exact (kze (p:=⟨w.heap.size,5,none⟩) (kze (p:=⟨w.heap.size,4,none⟩) (kze (p:=⟨w.heap.size,3,none⟩) (kze (p:=⟨w.heap.size,2,none⟩) (kze (p:=⟨w.heap.size,1,none⟩) (kze (p:=⟨w.heap.size,0,none⟩) P (kqd _) _) (kqd _) _) (kqd _) _) (kqd _) _) (kqd _) _) (kqd _) _)
 obtain⟨r,s⟩:=A.out (.inl k);have O:=hid r;have G:=hid s;have Eq:(R != 0)=true:=by rw[kqv];exact k
 clear k r s;go_wp2_with fail;refine kqr (v:=.tuple #[.agg #[.int .i64 0,.int .i64 0,.int .i64 0,.int .i64 0,.bool false,.int .u64 0],.bool false]) (aR results274 _ ((((((Q0.out.set_ 0 _).set_ 1 _).set_ 2 _).set_ 3 _).set_ 4 _).set_ 5 _) rfl rfl) rfl ⟨by rw[O.out,G.out];rfl,?_⟩;exact (kze (p:=⟨w.heap.size,5,none⟩) (kze (p:=⟨w.heap.size,4,none⟩) (kze (p:=⟨w.heap.size,3,none⟩) (kze (p:=⟨w.heap.size,2,none⟩) (kze (p:=⟨w.heap.size,1,none⟩) (kze (p:=⟨w.heap.size,0,none⟩) u (kqd _) _) (kqd _) _) (kqd _) _) (kqd _) _) (kqd _) _) (kqd _) _)
theorem at_c(A:Option Addr)(ws:List Nat)(c n a:Nat)(w:World)(hn:ws.length=n)(hm:n<=1000000)(ha:a+1<n)(hr:RdW w w.heap.size A ws)(ho:∀x∈ws,x<18446744073709551616):
 Calls prog 263 #[.slice A n c,.int .i64 (a:Int)] w λe w'=>e=.returned (.tuple #[(stB ws a).val,.bool (stands ws a)])/\Below w.heap.size w w':=by
 subst hn;have HR:=hid hr;have s:=fF ho a;have g:=hid (λW=>xM (wd ws a) W s);obtain⟨b,R,rfl,hb,U⟩:=RdW.at_ hr (show a<ws.length by omega);obtain⟨b',off',e',-,P⟩:=RdW.at_ hr ha;cases e';rw[<-cq] at U P;have ik0:(0:Int)<=(a:Int):=by omega
 have ik1:(a:Int)<(ws.length:Int):=by omega
 have d1:decide ((a:Int)<0)=false:=by rw[kqh];omega
 have d2:decide ((ws.length:Int)<=(a:Int))=false:=by rw[kqh];omega
 have ik2:(a:Int)+1<(ws.length:Int):=by omega
 have ik3:(0:Int)<=(a:Int)+1:=by omega
 have htn:((a:Int)+1).toNat=a+1:=by omega
 have j:(ar (wd ws a)).val=.agg #[.int .i64 0,.int .i64 ((szAt ws a:Nat):Int),.int .i64 ((wd ws a%256:Nat):Int),.int .i64 ((wd ws a/512%128:Nat):Int),.bool (wd ws a/256%2==1),.int .u64 0]:=rfl;have q:(bkAt ws a).val=.agg #[.int .i64 (a:Int),.int .i64 ((szAt ws a:Nat):Int),.int .i64 ((wd ws a%256:Nat):Int),.int .i64 ((wd ws a/512%128:Nat):Int),.bool (wd ws a/256%2==1),.int .u64 ((wd ws (a+1):Nat):Int)]:=rfl;have Y:szAt ws a<65536:=kz0 _ (by omega);have l:Hid (stands ws a=(aB (wd ws a)&&decide ((szAt ws a:Int)<=(ws.length:Int)-a))):=hid rfl;have G:Hid (stands ws a=false->stB ws a=mf):=hid λh=>(zd h).1;have O:Hid (stands ws a=true->stB ws a=bkAt ws a):=hid λh=>(xI h).1;cases o:aB (wd ws a)
 .have k:stands ws a=false:=by rw[l.out,o];rfl
  have E:=hid (G.out k);have F:=hid k;obtain⟨N,Q⟩:=lM o;rw[N,o] at g;clear hr j q o k N Q s;unfold Bk.val mf at g;dsimp only at g;obtain⟨x,s⟩:=xq (wd ws a);rw[s] at U g;clear s;go_enter func263,ntmps263;go_wp2_with fail;refine (g.out _).mono ?_;rintro e V ⟨rfl,d⟩;rw[kqm] at d;have m:=Bx.of_new d;have i:=av d;have H:=hid m;obtain⟨c0,c1,c2,c3,c4,c5,f,Z⟩:=m.c6;have L:=f 0;have D:=f 1;have C:=f 2;have J:=f 3;have t:=f 4;have I:=f 5;clear m f d;go_wp2_with fail;refine kqr (v:=.tuple #[.agg #[.int .i64 0,.int .i64 0,.int .i64 0,.int .i64 0,.bool false,.int .u64 0],.bool false]) (aR results263 _ ((lT H.out _ _ _ _ _ _).alloc _) rfl rfl) rfl ⟨by rw[E.out,F.out];rfl,(fo i (kqd _) _ _ _ _ _ _).alloc (by simp;have:=i.size;omega) _⟩
 obtain⟨N,Q⟩:=lS o;rw[N,j,o] at g;have r:=hid q;obtain⟨S,X⟩:=xq (szAt ws a);obtain⟨K,hK⟩:=xq (wd ws a%256);obtain⟨T,hT⟩:=xq (wd ws a/512%128);obtain⟨M,hM⟩:=xq ((wd ws a/256%2==1));rw[X,hK,hT,hM] at g r;rw[X] at Y l;rw[o,kzr] at l;obtain⟨x,u⟩:=xq (wd ws a);obtain⟨y,B⟩:=xq (wd ws (a+1));rw[u] at U g;rw[B] at P r;clear hr j q o N Q s X hK hT hM u B;by_cases z:(ws.length:Int)<(a:Int)+S
 .have k:stands ws a=false:=by rw[l.out,kqh];omega
  have E:=hid (G.out k);have F:=hid k;clear k;go_enter func263,ntmps263;go_wp2_with fail;refine (g.out _).mono ?_;rintro e V ⟨rfl,d⟩;rw[kqm] at d;have m:=Bx.of_new d;have i:=av d;have H:=hid m;obtain⟨c0,c1,c2,c3,c4,c5,f,Z⟩:=m.c6;have L:=f 0;have D:=f 1;have C:=f 2;have J:=f 3;have t:=f 4;have I:=f 5;clear m f d;go_wp2_with fail;refine kqr (v:=.tuple #[.agg #[.int .i64 0,.int .i64 0,.int .i64 0,.int .i64 0,.bool false,.int .u64 0],.bool false]) (aR results263 _ ((lT H.out _ _ _ _ _ _).alloc _) rfl rfl) rfl ⟨by rw[E.out,F.out];rfl,(fo i (kqd _) _ _ _ _ _ _).alloc (by simp;have:=i.size;omega) _⟩
 have k:stands ws a=true:=by rw[l.out,kqn];omega
 have E:=hid (O.out k);have F:=hid k;have hle:(a:Int)+S<=(ws.length:Int):=by omega
 clear k z;go_enter func263,ntmps263;go_wp2_with fail;refine (g.out _).mono ?_;rintro e V ⟨rfl,d⟩;rw[kqm] at d;have m:=Bx.of_new d;have i:=av d;have H:=hid m;obtain⟨c0,c1,c2,c3,c4,c5,f,Z⟩:=m.c6;have L:=f 0;have D:=f 1;have C:=f 2;have J:=f 3;have t:=f 4;have I:=f 5;clear m f d;have hbw:b<V.heap.size:=by have:=i.size;omega
 have h1':=(i.cell (p:=⟨b,R+(a+1),none⟩) hb).trans P;have hwr:IntKind.i64.wrap ((a:Int)+1)=(a:Int)+1:=kqs _ (by omega);go_wp2_with fail;refine kqr (v:=.tuple #[.agg #[.int .i64 (a:Int),.int .i64 (S:Int),.int .i64 (K:Int),.int .i64 (T:Int),.bool M,.int .u64 (y:Int)],.bool true]) (aR results263 _ ((lT H.out _ _ _ _ _ _).alloc _) rfl rfl) rfl ⟨by rw[E.out,F.out,r.out],(fo i (kqd _) _ _ _ _ _ _).alloc (by simp;have:=i.size;omega) _⟩
def rS (ws:List Nat) (a:Nat):List Bk:=(blocks ws a).getD []
def EN (ws:List Nat) (a:Nat) (e:Ending) (w':World):Prop:=∃A c,e=.returned (.tuple #[.slice A (rS ws a).length c,.bool (blocks ws a).isSome])/\RdB w' w'.heap.size A (rS ws a)/\(rS ws a).length<=c
def rtF (ws:List Nat) (i j:Nat):Value:=.bool (decide (i<=j/\j%2=0)&&(blocks ws j).isSome)
theorem D4(h:blocks ws a=none):EN ws a (.returned (.tuple #[.slice none 0 0,.bool false])) w':=by
 have:rS ws a=[]:=by simp[rS,h]
 exact⟨none,0,by rw[this,h];rfl,by rw[this];exact Rd.nil_,by rw[this];simp⟩
theorem Bl{H:Nat}{v:Value}{l:List Bk}(h0:blocks ws a=some l)(h:w'.ownsRow H 55 6 v l.length (l.flatMap Bk.cells)):EN ws a (.returned (.tuple #[v,.bool true])) w':=by
 have e:rS ws a=l:=by simp[rS,h0]
 have f:∃A c,v=.slice A l.length c/\l.length<=c:=by
  rcases h.2 with⟨rfl,d⟩|⟨g,cap,cur,rfl,_,_,b,_⟩
  .exact ⟨none,0,by rw[d],by omega⟩
  exact⟨_,_,rfl,b⟩
 obtain⟨A,c,rfl,b⟩:=f;exact⟨A,c,by rw[e,h0];rfl,by rw[e];exact Rd.of_own h,by rw[e];exact b⟩
theorem zH(ws:List Nat)(m:Nat)(hm:m=ws.length+1)(he:ws.length%2=0)(h:w.rowIs g 4 m (λ_=>.bool false)):(w.setCell ⟨g,ws.length,none⟩ (.bool true)).rowIs g 4 m (rtF ws ws.length):=
 (h.set ws.length (.bool true)).congr λi hi=>by
  unfold rtF
  by_cases e:i=ws.length
  .subst e
   rw[aD (kqd _)];simp[he]
  .rw[if_neg e]
   have:decide (ws.length<=i/\i%2=0)=false:=by rw[kqh];omega
   rw[this];rfl
theorem tO(ws:List Nat)(m i:Nat)(he:i%2=0)(h:w.rowIs g 4 m (rtF ws (i+2))):(w.setCell ⟨g,i,none⟩ (.bool (blocks ws i).isSome)).rowIs g 4 m (rtF ws i):=
 (h.set i _).congr λj _=>by
  unfold rtF
  by_cases e:j=i
  .subst e;simp[he]
  .rw[if_neg e]
   congr 2
   rw[decide_eq_decide]
   omega
theorem Bc:(prog.info? 4).map (λi=>(i.zero,i.size,i.bytes))=some (some (.bool false),1,1):=by kernel_rfl
theorem Ew(A:Option Addr)(ws:List Nat)(c n a:Nat)(w:World)(hn:ws.length=n)(hm:n<=100000)(he:n%2=0)(ha:a<=n)(ha2:a%2=0)(hr:RdW w w.heap.size A ws)(ho:∀x∈ws,x<18446744073709551616):
 Calls prog 213 #[.slice A n c,.int .i64 (a:Int)] w λe w'=>EN ws a e w'/\Below w.heap.size w w':=by
 subst hn;have HR:=hid hr;have HO:=hid ho;obtain⟨m,Jb⟩:∃m,m=ws.length+1:=⟨_,rfl⟩;have Jq:(Instr.makeSlice 114 (.int .i64 ((ws.length:Int)+1)) (.int .i64 ((ws.length:Int)+1))).run prog w=.ok (.slice (some ⟨w.heap.size,0,none⟩) m m) (w.alloc (.cells (madeCells #[.bool false] m) 4)):=by have:=run_make_row' (P:=prog) 114 4 (.bool false) 1 underlying114 Bc rfl .i64 .i64 m (by omega) (by omega) w;rw[show ((m:Nat):Int)=(ws.length:Int)+1 by omega] at this;exact this
 have r0:=World.rowIs_made w (.bool false) m 4;have V:Below w.heap.size w (w.alloc (.cells (madeCells #[.bool false] m) 4)):=(kql _ _).alloc (kqd _) _;have E:(w.alloc (.cells (madeCells #[.bool false] m) 4)).heap.size=w.heap.size+1:=by simp
 obtain⟨W0,Jh⟩:=xq (w.alloc (.cells (madeCells #[.bool false] m) 4));rw[Jh] at Jq r0 V E;have HMM:=hid Jb;have c0:=r0.cell (i:=ws.length) (by omega);have f0:=r0.frozen ws.length;have R1:=hid (zH ws m Jb he r0);have hlm:(ws.length:Int)<(m:Int):=by omega
 have HE:=hid he;have Jf:=hid ha2;have HZ0:=hid E;have Jp:=hid V;clear hr ho Jb Jh r0 he ha2 E V;go_enter func213,ntmps213;go_wp2_with fail;go_loopw [7] (λp wr=>∃k:Nat,k<=ws.length/\a<=k/\k%2=0/\p=.int .i64 ((k:Int)-2)/\wr.rowIs w.heap.size 4 m (rtF ws k)/\Below w.heap.size w wr) (λp _=>(intOf p+2).toNat)
 case atStart=>exact⟨ws.length,kqd _,ha,HE.out,rfl,R1.out,Jp.out.setCell (kqd _) _⟩
 obtain⟨k,q1,q2,Z,rfl,g,F⟩:=hrel;have R:=F.size;by_cases I:a+2<=k
 .obtain ⟨i,rfl⟩:∃i,k=i+2:=⟨k-2,by omega⟩;rw[show (((i+2:Nat):Int)-2)=(i:Int) by omega];have Eq:i%2=0:=by omega
  have H:=hid Eq;have g1:(a:Int)<=(i:Int):=by omega
  have g2:(0:Int)<=(i:Int):=by omega
  have D:=hid (at_c A ws c ws.length i wr rfl (by omega) (by omega) (HR.out.up F R) HO.out);cases b:stands ws i
  .have HN:=hid (show (blocks ws i).isSome=false by rw[db (by omega) b];rfl);rw[(zd b).1,b] at D;unfold mf Bk.val at D;dsimp only at D;have s:=hid g;clear b Z Eq g;go_wp2_with fail;refine D.out.mono ?_;rintro e Q ⟨rfl,d⟩;have f:=(mN s.out d s.out.lt).alloc (.cells #[.int .i64 0,.int .i64 0,.int .i64 0,.int .i64 0,.bool false,.int .u64 0] 55);have o:=((F.trans (d.mono R)).alloc (kz5 R d.size) (.cells #[.int .i64 0,.int .i64 0,.int .i64 0,.int .i64 0,.bool false,.int .u64 0] 55));have t:i<m:=by omega
   have y:=f.cell t;have e2:=f.frozen i;unfold rtF at y;obtain⟨q,hq⟩:=xq ((decide (i+2<=i/\i%2=0)&&(blocks ws i).isSome));rw[hq] at y;have C:=hid (tO ws m i H.out f);rw[HN.out] at C;have N:=hid o;clear f o hq d;go_wp2;go_roundw
   case rel=>exact⟨i,by omega,by omega,H.out,by go_num,C.out,N.out.setCell (kqd _) _⟩
   case measure=>simp[intOf];omega
  have G:=aH b;have HN:=hid (show (blocks ws i).isSome=(blocks ws (i+szAt ws i)).isSome by rw[aL (by omega) b,Option.isSome_map]);have Jm:(bkAt ws i).val=.agg #[.int .i64 (i:Int),.int .i64 ((szAt ws i:Nat):Int),.int .i64 ((wd ws i%256:Nat):Int),.int .i64 ((wd ws i/512%128:Nat):Int),.bool (wd ws i/256%2==1),.int .u64 ((wd ws (i+1):Nat):Int)]:=rfl;rw[(xI b).1,b,Jm] at D;have Ji:=hid (show (i+szAt ws i)%2=0 by omega);obtain⟨S,hS⟩:=xq (szAt ws i);obtain⟨K,hK⟩:∃K,((wd ws i%256:Nat):Int)=K:=⟨_,rfl⟩;obtain⟨T,hT⟩:∃T,((wd ws i/512%128:Nat):Int)=T:=⟨_,rfl⟩;obtain⟨M,hM⟩:=xq ((wd ws i/256%2==1));obtain⟨X,hX⟩:∃X,((wd ws (i+1):Nat):Int)=X:=⟨_,rfl⟩;rw[hS] at HN G Ji;rw[hS,hK,hT,hM,hX] at D;obtain⟨z1,z2,z3⟩:=G;have s:=hid g;clear b Eq g Jm hS hK hT hM hX z2;go_wp2_with fail;refine D.out.mono ?_;rintro e Q ⟨rfl,d⟩;have f:=(mN s.out d s.out.lt).alloc (.cells #[.int .i64 (i:Int),.int .i64 (S:Int),.int .i64 K,.int .i64 T,.bool M,.int .u64 X] 55);have o:=((F.trans (d.mono R)).alloc (kz5 R d.size) (.cells #[.int .i64 (i:Int),.int .i64 (S:Int),.int .i64 K,.int .i64 T,.bool M,.int .u64 X] 55));have t:i<m:=by omega
  have Jd:i+S<m:=by omega
  have htn:((i:Int)+(S:Int)).toNat=i+S:=by omega
  have hub:(i:Int)+(S:Int)<(m:Int):=by omega
  have hlb:(0:Int)<=(i:Int)+(S:Int):=by omega
  have Jg:=Bx.new Q 55 #[.int .i64 (i:Int),.int .i64 (S:Int),.int .i64 K,.int .i64 T,.bool M,.int .u64 X];have e0:(Q.alloc (.cells #[.int .i64 (i:Int),.int .i64 (S:Int),.int .i64 K,.int .i64 T,.bool M,.int .u64 X] 55)).cell? ⟨Q.heap.size,1,none⟩=some (.int .i64 (S:Int)):=Jg.cell 1;have y:=f.cell t;have e2:=f.frozen i;have e3:=f.cell Jd;unfold rtF at y e3;rw[show decide (i+2<=i+S/\(i+S)%2=0)=true by rw[kqn];exact⟨by omega,Ji.out⟩,kzr,<-HN.out] at e3;obtain⟨q,hq⟩:=xq ((decide (i+2<=i/\i%2=0)&&(blocks ws i).isSome));rw[hq] at y;have C:=hid (tO ws m i H.out f);obtain⟨r,hr⟩:=xq ((blocks ws i).isSome);rw[hr] at C e3;have N:=hid o;clear f o hq d hr Jg;obtain⟨w2,Jt⟩:∃w2,(Q.alloc (.cells #[.int .i64 (i:Int),.int .i64 (S:Int),.int .i64 K,.int .i64 T,.bool M,.int .u64 X] 55))=w2:=⟨_,rfl⟩;rw[Jt] at e0 y e2 e3 C N;go_wp2;go_roundw
  case rel=>exact⟨i,by omega,by omega,H.out,by go_num,C.out,N.out.setCell (kqd _) _⟩
  case measure=>simp[intOf];omega
 obtain rfl:k=a:=by have:=Jf.out;omega
 have hlt2:(k:Int)-2<(k:Int):=by omega
 have t:k<m:=by omega
 have y:=g.cell t;have ik:(k:Int)<(m:Int):=by omega
 have ik0:(0:Int)<=(k:Int):=by omega
 unfold rtF at y;rw[show decide (k<=k/\k%2=0)=true by rw[kqn];exact⟨kqd _,Z⟩,kzr] at y;have d1:decide ((k:Int)<0)=false:=by rw[kqh];omega
 have d2:decide ((ws.length:Int)<(k:Int))=false:=by rw[kqh];omega
 have d2n:decide (ws.length<k)=false:=by rw[kqh];omega
 clear I Z g;cases B:blocks ws k with
 | none =>rw[B] at y;have HN:=hid B;rw[show (none:Option (List Bk)).isSome=false from rfl] at y;clear B;go_wp2;go_ret2;exact⟨D4 HN.out,F⟩
 | some l =>
  rw[B] at y;have Jr:=hid B;rw[show (some l).isSome=true from rfl] at y;clear B;have Jj:=hid F;clear F;obtain⟨i2,hi,E,J,Jl⟩:=kzv kz;have HJ:=hid hi;have Jy:=hid E;have Jv:=hid J;have Js:=hid Jl;clear hi E J Jl;go_wp2_with fail;clear y;go_loopw [1,10] (λp v wr=>∃(i:Nat) (j:List Bk),p=.int .i64 i/\i<=ws.length/\i%2=0/\blocks ws k=(blocks ws i).map (j ++ ·)/\j.length<=i/\wr.ownsRow w.heap.size 55 6 v j.length (j.flatMap Bk.cells)/\Below w.heap.size w wr) (λp _ _=>ws.length-(intOf p).toNat)
  case atStart=>exact⟨k,[],rfl,ha,Jf.out,by simp,by simp,kq8 _ _ _ _,Jj.out⟩
  obtain⟨i,j,rfl,q2,Z,q4,q5,U,F⟩:=hrel;have R:=F.size;have Jw:=hid Z;have Ja:=hid q4;clear q4;by_cases I:i<ws.length
  .have Je:i+1<ws.length:=by have:=HE.out;omega
   clear Z;have b:stands ws i=true:=by
    cases h:stands ws i with
    | true=>rfl
    | false=>have:=Ja.out;rw[db I h,Jr.out] at this;cases this
   have G:=aH b;have D:=hid (at_c A ws c ws.length i wr rfl (by omega) Je (HR.out.up F R) HO.out);rw[(xI b).1,b] at D;have W:=hid (show blocks ws k=(blocks ws (i+szAt ws i)).map ((j++[bkAt ws i]) ++ ·) by
    rw[Ja.out,aL I b];cases blocks ws (i+szAt ws i)<;>simp)
   have Jk:=hid (ce Bk.cells j (bkAt ws i));have O:=bq ws i;obtain⟨x,hx⟩:=xq (bkAt ws i);obtain⟨z,Jo⟩:=xq (szAt ws i);rw[hx] at D W Jk O;rw[Jo] at W G O;have HX:=hid hx;obtain⟨xa,xs,xk,xt,xm,xn⟩:=x;dsimp only at O;subst O;unfold Bk.val at D;dsimp only at D;obtain⟨z1,z2,z3⟩:=G;have Ju:=hid z2;clear b hx Jo z2;go_wp2_with fail;refine D.out.mono ?_;rintro e Q ⟨rfl,d⟩;have o:=F.trans (d.mono R);have u:=ai U d (kqd _);have J:=o.size;go_wp2_with (at_builtin;refine kzd _ rfl _ _ 48 rfl w.heap.size 55 i2 _ 6 48 underlying48 HJ.out Jy.out Jv.out Js.out rfl (by decide) _ _ _ rfl ((u.alloc _).alloc _) ⟨_,0,none⟩ 1 1 [.int .i64 xa,.int .i64 (z:Int),.int .i64 xk,.int .i64 xt,.bool xm,.int .u64 (xn:Int)] rfl rfl (ld _ _ _ (kqm _ _)) (by simp[Value.oneCell']) (by unfold maxLen;omega) (by omega) (by simp;omega) ?_;intro v1 w2 Y Jc _;have L:Bx w2 Q.heap.size 55 #[.int .i64 xa,.int .i64 (z:Int),.int .i64 xk,.int .i64 xt,.bool xm,.int .u64 (xn:Int)]:=((Bx.new Q 55 _).alloc _).grown Jc (pD u);have Jz:=aC (o.alloc J (.cells #[.int .i64 xa,.int .i64 (z:Int),.int .i64 xk,.int .i64 xt,.bool xm,.int .u64 (xn:Int)] 55)) (by simp;omega) (u.alloc _) Jc;have hc1:w2.cell? ⟨Q.heap.size,1,none⟩=some (.int .i64 (z:Int)):=L.cell 1;have hf1:=L.frozen 1;have hl1:=L.lt;clear Jc L);go_roundw
   case rel=>exact⟨i+z,j++[⟨xa,(z:Int),xk,xt,xm,xn⟩],by rw[kjs],by omega,by have:=Jw.out;have:=Ju.out;omega,W.out,by simp;omega,by rw[Jk.out,kqu];exact Y,Jz⟩
   case measure=>simp[intOf];omega
  have hi:i=ws.length:=by omega
  have HD:=hid (show blocks ws k=some j by rw[Ja.out,aD (by omega)];simp);clear hi Z;go_wp2;go_ret2;exact⟨Bl HD.out U,F⟩
end Go.Proofs.YtpcajamacpbjcaaGreat
