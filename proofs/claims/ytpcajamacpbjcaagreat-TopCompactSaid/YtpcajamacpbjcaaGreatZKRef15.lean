/- Texts laid together: Img2 Ref14 Ref14S Ref15 Ref15F. -/
import Derived.Test.YtpcajamacpbjcaaGreatZKHead
import Derived.Test.YtpcajamacpbjcaaGreatZKRefs
set_option maxHeartbeats 16000000
set_option maxRecDepth 100000
set_option linter.all false
namespace Go.Proofs.YtpcajamacpbjcaaGreat
open Lib (hid)
open Go.RowKit
variable {ws:List Nat}{a g:Nat}{w w':World}
open Go.Proofs.Tryz
theorem rS(n:Nat)(w:World)(hn:n<=9223372036854775807):Calls prog 148 #[.int .i64 (n:Int)] w λe w'=>e=.returned (.bool (ak (n:Int)))/\w=w':=by
 have H:Hid (∀b:Bool,(b=true↔256<=n/\n<=2048/\n%8=0)->b=ak (n:Int)):=hid λb h=>by rw[kzl,ab,h];omega
 go_enter func148,ntmps148;go_wp2_with fail
 all_goals
  go_ret;exact⟨jJ (H.out _ (by simp;omega)),rfl⟩
theorem mI(A:Option Addr)(n c:Nat)(w:World)(hn:n<=9223372036854775807):Calls prog 92 #[.slice A n c] w λe w'=>e=.returned (.int .i64 (lR n))/\w=w':=by
 cases a:ak (n:Int)
 all_goals
  first
   | have b:=hid (aV a)
   | have b:=hid (bL a)
  have d:=hid a;clear a;go_enter func92,ntmps92;go_wp2_with fail;refine (rS n w hn).mono ?_;rintro e w1 ⟨rfl,rfl⟩;rw[d.out];go_wp2;go_ret;exact⟨by rw[b.out];rfl,rfl⟩
theorem rT(b:Bk)(w:World):Calls prog 291 #[b.val] w λe w'=>e=.returned (.int .i64 (jx b))/\Below w.heap.size w w':=by
 obtain⟨xa,xs,xk,xt,a,xn⟩:=b;unfold Bk.val;cases a
 all_goals
  go_enter func291,ntmps291;go_wp2_with fail
  all_goals
   go_ret;refine⟨?_,(kqk _ _).alloc (kqa _) _⟩;(try simp only[ne_eq,kqx,kqi,kx7,kk2,kqh,kzd] at *)
   first
    | (exfalso;omega)
    | exact nn (Dp (by simp only[reduceCtorEq,and_false,false_and,or_false,true_and];omega))
    | exact nn (z8 (by simp only[reduceCtorEq,and_false,false_and,or_false,true_and];omega))
theorem Kf(xa:Int)(S K T:Nat)(m:Bool)(xn:Nat)(w:World)(h1:K<256)(h2:T<128)(h3:S<65536):
 Calls prog 292 #[.agg #[.int .i64 xa,.int .i64 (S:Int),.int .i64 (K:Int),.int .i64 (T:Int),.bool m,.int .u64 (xn:Int)]] w λe w'=>e=.returned (.int .u64 ((cS ⟨xa,(S:Int),(K:Int),(T:Int),m,xn⟩:Nat):Int))/\Below w.heap.size w w':=by have f:=hid (λW=>oG K T S m W h1 h2 h3);have d:Hid (cS ⟨xa,(S:Int),(K:Int),(T:Int),m,xn⟩=K+pa m*256+T*512+S*65536+iz (K+pa m*256+T*512+S*65536)%4294967296*4294967296):=hid rfl;obtain⟨V,c⟩:=xq (K+pa m*256+T*512+S*65536+iz (K+pa m*256+T*512+S*65536)%4294967296*4294967296);rw[c] at f d;rw[d.out];clear c;go_enter func292,ntmps292;go_wp2_with fail;refine (f.out _).mono ?_;rintro e w1 ⟨rfl,a⟩;rw[kqm] at a;have b:=ay a;clear a;go_wp2;go_ret;exact⟨rfl,b⟩
theorem xU(x:Nat)(w:World)(hx:x<18446744073709551616):Calls prog 274 #[.int .u64 (x:Int)] w λe w'=>e=.returned (.tuple #[(Eg x).val,.bool (aG x)])/\Below w.heap.size w w':=by
 have d:=hid (λW=>rT (ap x) W);have L:Hid (jx (ap x)=0->cS (ap x)=x->Eg x=ap x/\aG x=true):=hid λh1 h2=>by
  have hb:jB (ap x)=true:=by
   cases P:jB (ap x) with
   | true=>rfl
   | false=>rw[nk P] at h1;cases h1
  have:aG x=true:=by simp[aG,hb,h2]
  exact⟨(mM this).1,this⟩
 have t:Hid (jx (ap x)≠0\/cS (ap x)≠x->Eg x=mW/\aG x=false):=hid λh=>by
  have:aG x=false:=by
   cases P:jB (ap x) with
   | false=>simp[aG,P]
   | true =>
    rcases h with h|h
    .exact absurd (js P) h
    simp[aG,P,h]
  exact⟨(mP this).1,this⟩
 have hx0:(0:Int)<=(x:Int):=by omega
 have j:(ap x).val=.agg #[.int .i64 0,.int .i64 ((x/65536%65536:Nat):Int),.int .i64 ((x%256:Nat):Int),.int .i64 ((x/512%128:Nat):Int),.bool (x/256%2==1),.int .u64 0]:=rfl;have m1:x%256<256:=kz0 _ (by omega);have m2:x/256%2<2:=kz0 _ (by omega);have m3:x/512%128<128:=kz0 _ (by omega);have m4:x/65536%65536<65536:=kz0 _ (by omega);have y:=hid (λW=>jT x 0 8 W hx (by omega));have z:=hid (λW=>jT x 8 1 W hx (by omega));have A:=hid (λW=>jT x 9 7 W hx (by omega));have u:=hid (λW=>jT x 16 16 W hx (by omega));rw[show bI x 0 8=x%256 by simp[bI]] at y;rw[show bI x 8 1=x/256%2 from rfl] at z;rw[show bI x 9 7=x/512%128 from rfl] at A;rw[show bI x 16 16=x/65536%65536 from rfl] at u;have c:=hid (λW=>Kf 0 (x/65536%65536) (x%256) (x/512%128) (x/256%2==1) 0 W m1 m3 m4);rw[show (⟨0,((x/65536%65536:Nat):Int),((x%256:Nat):Int),((x/512%128:Nat):Int),(x/256%2==1),0⟩:Bk)=ap x from rfl] at c;rw[j] at d;have a:=hid j;have i:((((x/256%2:Nat):Int))==1)=(x/256%2==1):=by rw[kzl,kqx,kqx];omega
 obtain⟨K,hK⟩:=xq (x%256);obtain⟨M,hM⟩:=xq (x/256%2);obtain⟨T,hT⟩:=xq (x/512%128);obtain⟨S,hS⟩:=xq (x/65536%65536);rw[hK] at m1 y d c a;rw[hM] at m2 i z d c a;rw[hT] at m3 A d c a;rw[hS] at m4 u d c a;obtain⟨D,G⟩:=xq ((M==1));rw[G] at i d c a;obtain⟨V,s⟩:=xq (cS (ap x));obtain⟨R,m⟩:=xq (jx (ap x));rw[s,m] at L t;rw[m] at d;rw[s] at c;clear hx j hK hM hT hS G s m;go_enter func274,ntmps274;go_wp2_with fail;refine (y.out _).mono ?_;rintro e C ⟨rfl,rfl⟩;go_wp2_with fail;refine (z.out _).mono ?_;rintro e C ⟨rfl,rfl⟩;go_wp2_with fail;refine (A.out _).mono ?_;rintro e C ⟨rfl,rfl⟩;go_wp2_with fail;refine (u.out _).mono ?_;rintro e C ⟨rfl,rfl⟩;go_wp2_with fail;have k:=(Bx.new w 55 #[.int .i64 0,.int .i64 0,.int .i64 0,.int .i64 0,.bool false,.int .u64 0]).alloc (.cells #[.int .i64 0,.int .i64 (S:Int),.int .i64 (K:Int),.int .i64 (T:Int),.bool D,.int .u64 0] 55);have l:=Bx.new (w.alloc (.cells #[.int .i64 0,.int .i64 0,.int .i64 0,.int .i64 0,.bool false,.int .u64 0] 55)) 55 #[.int .i64 0,.int .i64 (S:Int),.int .i64 (K:Int),.int .i64 (T:Int),.bool D,.int .u64 0]
 have o:Below w.heap.size w ((w.alloc (.cells #[.int .i64 0,.int .i64 0,.int .i64 0,.int .i64 0,.bool false,.int .u64 0] 55)).alloc (.cells #[.int .i64 0,.int .i64 (S:Int),.int .i64 (K:Int),.int .i64 (T:Int),.bool D,.int .u64 0] 55)):=((kqk _ _).alloc (kqa _) _).alloc (by simp) _;have H:((w.alloc (.cells #[.int .i64 0,.int .i64 0,.int .i64 0,.int .i64 0,.bool false,.int .u64 0] 55)).alloc (.cells #[.int .i64 0,.int .i64 (S:Int),.int .i64 (K:Int),.int .i64 (T:Int),.bool D,.int .u64 0] 55)).heap.size=w.heap.size+2:=by simp
 rw[kqm] at l;obtain⟨Z,U⟩:∃Z,(w.alloc (.cells #[.int .i64 0,.int .i64 0,.int .i64 0,.int .i64 0,.bool false,.int .u64 0] 55)).alloc (.cells #[.int .i64 0,.int .i64 (S:Int),.int .i64 (K:Int),.int .i64 (T:Int),.bool D,.int .u64 0] 55)=Z:=⟨_,rfl⟩;rw[U] at k l o H |-;clear U;refine (d.out Z).mono ?_;rintro e C ⟨rfl,g⟩;have B:=o.trans (g.mono o.size);replace k:=k.up g (by omega);replace l:=l.up g (by omega);have hz1:w.heap.size+2<=C.heap.size:=by have:=g.size;omega
 obtain⟨c0,c1,c2,c3,c4,c5,f,cz⟩:=k.c6;obtain⟨d0,d1,d2,d3,d4,d5,df,dz⟩:=l.c6;have Q0:=hid k;have Q1:=hid l;have J:=f 0;have I:=f 1;have E:=f 2;have O:=f 3;have N:=f 4;have Y:=f 5;clear k l g o H df f i m1 m2 m3 m4;by_cases m:R=0
 .have Eq:(R != 0)=false:=by rw[kqr];exact m
  have Kx:=hid m;clear m J I E O N Y c0 c1 c2 c3 c4 c5;go_wp2_with fail;refine (c.out C).mono ?_;rintro e w2 ⟨rfl,n⟩;have X:=B.trans (n.mono B.size);have k:=Q0.out.up n (by omega);have l:=Q1.out.up n (by omega);clear d0 d1 d2 d3 d4 d5;obtain⟨c0,c1,c2,c3,c4,c5,f,cz⟩:=k.c6;obtain⟨d0,d1,d2,d3,d4,d5,df,dz⟩:=l.c6;have P0:=hid k;have J:=f 0;have I:=f 1;have E:=f 2;have O:=f 3;have N:=f 4;have Y:=f 5;clear k l n df f;by_cases s:V=x
  .obtain ⟨q,r⟩:=L.out Kx.out s;have Q:=hid q;have F:=hid r;have Kw:((V:Int) != (x:Int))=false:=by rw[kqr];omega
   clear s q r;go_wp2_with fail;refine kqq (v:=.tuple #[.agg #[.int .i64 0,.int .i64 (S:Int),.int .i64 (K:Int),.int .i64 (T:Int),.bool D,.int .u64 0],.bool true]) (aZ results274 _ ((((((P0.out.set_ 0 _).set_ 1 _).set_ 2 _).set_ 3 _).set_ 4 _).set_ 5 _) rfl rfl) rfl ⟨by rw[Q.out,F.out,a.out],?_⟩;exact (kq9 (p:=⟨w.heap.size,5,none⟩) (kq9 (p:=⟨w.heap.size,4,none⟩) (kq9 (p:=⟨w.heap.size,3,none⟩) (kq9 (p:=⟨w.heap.size,2,none⟩) (kq9 (p:=⟨w.heap.size,1,none⟩) (kq9 (p:=⟨w.heap.size,0,none⟩) X (kqa _) _) (kqa _) _) (kqa _) _) (kqa _) _) (kqa _) _) (kqa _) _)
  obtain⟨q,r⟩:=t.out (.inr s);have Q:=hid q;have F:=hid r;have Kw:((V:Int) != (x:Int))=true:=by rw[kqv];omega
  clear s q r;go_wp2_with fail;refine kqq (v:=.tuple #[.agg #[.int .i64 0,.int .i64 0,.int .i64 0,.int .i64 0,.bool false,.int .u64 0],.bool false]) (aZ results274 _ ((((((P0.out.set_ 0 _).set_ 1 _).set_ 2 _).set_ 3 _).set_ 4 _).set_ 5 _) rfl rfl) rfl ⟨by rw[Q.out,F.out];rfl,?_⟩;exact (kq9 (p:=⟨w.heap.size,5,none⟩) (kq9 (p:=⟨w.heap.size,4,none⟩) (kq9 (p:=⟨w.heap.size,3,none⟩) (kq9 (p:=⟨w.heap.size,2,none⟩) (kq9 (p:=⟨w.heap.size,1,none⟩) (kq9 (p:=⟨w.heap.size,0,none⟩) X (kqa _) _) (kqa _) _) (kqa _) _) (kqa _) _) (kqa _) _) (kqa _) _)
 obtain⟨q,r⟩:=t.out (.inl m);have Q:=hid q;have F:=hid r;have Eq:(R != 0)=true:=by rw[kqv];exact m
 clear m q r;go_wp2_with fail;refine kqq (v:=.tuple #[.agg #[.int .i64 0,.int .i64 0,.int .i64 0,.int .i64 0,.bool false,.int .u64 0],.bool false]) (aZ results274 _ ((((((Q0.out.set_ 0 _).set_ 1 _).set_ 2 _).set_ 3 _).set_ 4 _).set_ 5 _) rfl rfl) rfl ⟨by rw[Q.out,F.out];rfl,?_⟩;exact (kq9 (p:=⟨w.heap.size,5,none⟩) (kq9 (p:=⟨w.heap.size,4,none⟩) (kq9 (p:=⟨w.heap.size,3,none⟩) (kq9 (p:=⟨w.heap.size,2,none⟩) (kq9 (p:=⟨w.heap.size,1,none⟩) (kq9 (p:=⟨w.heap.size,0,none⟩) B (kqa _) _) (kqa _) _) (kqa _) _) (kqa _) _) (kqa _) _) (kqa _) _)
theorem at_c(A:Option Addr)(ws:List Nat)(c n a:Nat)(w:World)(hn:ws.length=n)(hm:n<=1000000)(ha:a+1<n)(hr:RdW w w.heap.size A ws)(ho:∀x∈ws,x<18446744073709551616):
 Calls prog 263 #[.slice A n c,.int .i64 (a:Int)] w λe w'=>e=.returned (.tuple #[(stB ws a).val,.bool (stands ws a)])/\Below w.heap.size w w':=by
 subst hn;have HR:=hid hr;have s:=fT ho a;have g:=hid (λW=>xU (wd ws a) W s);obtain⟨b,U,rfl,hb,X⟩:=RdW.at_ hr (show a<ws.length by omega);obtain⟨b',off',e',-,Q⟩:=RdW.at_ hr ha;cases e';rw[<-cF] at X Q;have ik0:(0:Int)<=(a:Int):=by omega
 have ik1:(a:Int)<(ws.length:Int):=by omega
 have d1:decide ((a:Int)<0)=false:=by rw[kqh];omega
 have d2:decide ((ws.length:Int)<=(a:Int))=false:=by rw[kqh];omega
 have ik2:(a:Int)+1<(ws.length:Int):=by omega
 have ik3:(0:Int)<=(a:Int)+1:=by omega
 have htn:((a:Int)+1).toNat=a+1:=by omega
 have m:(ap (wd ws a)).val=.agg #[.int .i64 0,.int .i64 ((szAt ws a:Nat):Int),.int .i64 ((wd ws a%256:Nat):Int),.int .i64 ((wd ws a/512%128:Nat):Int),.bool (wd ws a/256%2==1),.int .u64 0]:=rfl;have q:(bkAt ws a).val=.agg #[.int .i64 (a:Int),.int .i64 ((szAt ws a:Nat):Int),.int .i64 ((wd ws a%256:Nat):Int),.int .i64 ((wd ws a/512%128:Nat):Int),.bool (wd ws a/256%2==1),.int .u64 ((wd ws (a+1):Nat):Int)]:=rfl;have P:szAt ws a<65536:=kz0 _ (by omega);have k:Hid (stands ws a=(aG (wd ws a)&&decide ((szAt ws a:Int)<=(ws.length:Int)-a))):=hid rfl;have B:Hid (stands ws a=false->stB ws a=mW):=hid λh=>(AQ h).1;have V:Hid (stands ws a=true->stB ws a=bkAt ws a):=hid λh=>(xM h).1;cases o:aG (wd ws a)
 .have l:stands ws a=false:=by rw[k.out,o];rfl
  have I:=hid (B.out l);have z:=hid l;obtain⟨D,R⟩:=mP o;rw[D,o] at g;clear hr m q o l D R s;unfold Bk.val mW at g;dsimp only at g;obtain⟨x,s⟩:=xq (wd ws a);rw[s] at X g;clear s;go_enter func263,ntmps263;go_wp2_with fail;refine (g.out _).mono ?_;rintro e O ⟨rfl,d⟩;rw[kqm] at d;have j:=Bx.of_new d;have i:=ay d;have F:=hid j;obtain⟨c0,c1,c2,c3,c4,Z,f,cz⟩:=j.c6;have H:=f 0;have C:=f 1;have u:=f 2;have G:=f 3;have E:=f 4;have J:=f 5;clear j f d;go_wp2_with fail;refine kqq (v:=.tuple #[.agg #[.int .i64 0,.int .i64 0,.int .i64 0,.int .i64 0,.bool false,.int .u64 0],.bool false]) (aZ results263 _ ((mT F.out _ _ _ _ _ _).alloc _) rfl rfl) rfl ⟨by rw[I.out,z.out];rfl,(fQ i (kqa _) _ _ _ _ _ _).alloc (by simp;have:=i.size;omega) _⟩
 obtain⟨D,R⟩:=mM o;rw[D,m,o] at g;have r:=hid q;obtain⟨S,Y⟩:=xq (szAt ws a);obtain⟨K,hK⟩:=xq (wd ws a%256);obtain⟨T,hT⟩:=xq (wd ws a/512%128);obtain⟨M,hM⟩:=xq ((wd ws a/256%2==1));rw[Y,hK,hT,hM] at g r;rw[Y] at P k;rw[o,kzq] at k;obtain⟨x,N⟩:=xq (wd ws a);obtain⟨y,L⟩:=xq (wd ws (a+1));rw[N] at X g;rw[L] at Q r;clear hr m q o D R s Y hK hT hM N L;by_cases t:(ws.length:Int)<(a:Int)+S
 .have l:stands ws a=false:=by rw[k.out,kqh];omega
  have I:=hid (B.out l);have z:=hid l;clear l;go_enter func263,ntmps263;go_wp2_with fail;refine (g.out _).mono ?_;rintro e O ⟨rfl,d⟩;rw[kqm] at d;have j:=Bx.of_new d;have i:=ay d;have F:=hid j;obtain⟨c0,c1,c2,c3,c4,Z,f,cz⟩:=j.c6;have H:=f 0;have C:=f 1;have u:=f 2;have G:=f 3;have E:=f 4;have J:=f 5;clear j f d;go_wp2_with fail;refine kqq (v:=.tuple #[.agg #[.int .i64 0,.int .i64 0,.int .i64 0,.int .i64 0,.bool false,.int .u64 0],.bool false]) (aZ results263 _ ((mT F.out _ _ _ _ _ _).alloc _) rfl rfl) rfl ⟨by rw[I.out,z.out];rfl,(fQ i (kqa _) _ _ _ _ _ _).alloc (by simp;have:=i.size;omega) _⟩
 have l:stands ws a=true:=by rw[k.out,kqo];omega
 have I:=hid (V.out l);have z:=hid l;have hle:(a:Int)+S<=(ws.length:Int):=by omega
 clear l t;go_enter func263,ntmps263;go_wp2_with fail;refine (g.out _).mono ?_;rintro e O ⟨rfl,d⟩;rw[kqm] at d;have j:=Bx.of_new d;have i:=ay d;have F:=hid j;obtain⟨c0,c1,c2,c3,c4,Z,f,cz⟩:=j.c6;have H:=f 0;have C:=f 1;have u:=f 2;have G:=f 3;have E:=f 4;have J:=f 5;clear j f d;have hbw:b<O.heap.size:=by have:=i.size;omega
 have h1':=(i.cell (p:=⟨b,U+(a+1),none⟩) hb).trans Q;have hwr:IntKind.i64.wrap ((a:Int)+1)=(a:Int)+1:=kqt _ (by omega);go_wp2_with fail;refine kqq (v:=.tuple #[.agg #[.int .i64 (a:Int),.int .i64 (S:Int),.int .i64 (K:Int),.int .i64 (T:Int),.bool M,.int .u64 (y:Int)],.bool true]) (aZ results263 _ ((mT F.out _ _ _ _ _ _).alloc _) rfl rfl) rfl ⟨by rw[I.out,z.out,r.out],(fQ i (kqa _) _ _ _ _ _ _).alloc (by simp;have:=i.size;omega) _⟩
def tB (ws:List Nat) (a:Nat):List Bk:=(blocks ws a).getD []
def Gu (ws:List Nat) (a:Nat) (e:Ending) (w':World):Prop:=∃A c,e=.returned (.tuple #[.slice A (tB ws a).length c,.bool (blocks ws a).isSome])/\RdB w' w'.heap.size A (tB ws a)/\(tB ws a).length<=c
def rtF (ws:List Nat) (i j:Nat):Value:=.bool (decide (i<=j/\j%2=0)&&(blocks ws j).isSome)
theorem GC(h:blocks ws a=none):Gu ws a (.returned (.tuple #[.slice none 0 0,.bool false])) w':=by
 have:tB ws a=[]:=by simp[tB,h]
 exact⟨none,0,by rw[this,h];rfl,by rw[this];exact Rd.nil_,by rw[this];simp⟩
theorem DO{H:Nat}{v:Value}{l:List Bk}(h0:blocks ws a=some l)(h:w'.ownsRow H 55 6 v l.length (l.flatMap Bk.cells)):Gu ws a (.returned (.tuple #[v,.bool true])) w':=by
 have e:tB ws a=l:=by simp[tB,h0]
 have f:∃A c,v=.slice A l.length c/\l.length<=c:=by
  rcases h.2 with⟨rfl,d⟩|⟨g,cap,cur,rfl,_,_,b,_⟩
  .exact ⟨none,0,by rw[d],by omega⟩
  exact⟨_,_,rfl,b⟩
 obtain⟨A,c,rfl,b⟩:=f;exact⟨A,c,by rw[e,h0];rfl,by rw[e];exact Rd.of_own h,by rw[e];exact b⟩
theorem DF(ws:List Nat)(m:Nat)(hm:m=ws.length+1)(he:ws.length%2=0)(h:w.rowIs g 4 m (λ_=>.bool false)):(w.setCell ⟨g,ws.length,none⟩ (.bool true)).rowIs g 4 m (rtF ws ws.length):=
 (h.set ws.length (.bool true)).congr λi hi=>by
  unfold rtF
  by_cases e:i=ws.length
  .subst e
   rw[aD (kqa _)];simp[he]
  .rw[if_neg e]
   have:decide (ws.length<=i/\i%2=0)=false:=by rw[kqh];omega
   rw[this];rfl
theorem vS(ws:List Nat)(m i:Nat)(he:i%2=0)(h:w.rowIs g 4 m (rtF ws (i+2))):(w.setCell ⟨g,i,none⟩ (.bool (blocks ws i).isSome)).rowIs g 4 m (rtF ws i):=
 (h.set i _).congr λj _=>by
  unfold rtF
  by_cases e:j=i
  .subst e;simp[he]
  .rw[if_neg e]
   congr 2
   rw[decide_eq_decide]
   omega
theorem Ap:(prog.info? 4).map (λi=>(i.zero,i.size,i.bytes))=some (some (.bool false),1,1):=by kernel_rfl
theorem Gv(A:Option Addr)(ws:List Nat)(c n a:Nat)(w:World)(hn:ws.length=n)(hm:n<=100000)(he:n%2=0)(ha:a<=n)(ha2:a%2=0)(hr:RdW w w.heap.size A ws)(ho:∀x∈ws,x<18446744073709551616):
 Calls prog 213 #[.slice A n c,.int .i64 (a:Int)] w λe w'=>Gu ws a e w'/\Below w.heap.size w w':=by
 subst hn;have HR:=hid hr;have HO:=hid ho;obtain⟨m,V⟩:∃m,m=ws.length+1:=⟨_,rfl⟩;have Ls:(Instr.makeSlice 114 (.int .i64 ((ws.length:Int)+1)) (.int .i64 ((ws.length:Int)+1))).run prog w=.ok (.slice (some ⟨w.heap.size,0,none⟩) m m) (w.alloc (.cells (madeCells #[.bool false] m) 4)):=by have:=run_make_row' (P:=prog) 114 4 (.bool false) 1 underlying114 Ap rfl .i64 .i64 m (by omega) (by omega) w;rw[show ((m:Nat):Int)=(ws.length:Int)+1 by omega] at this;exact this
 have r0:=World.rowIs_made w (.bool false) m 4;have W:Below w.heap.size w (w.alloc (.cells (madeCells #[.bool false] m) 4)):=(kqk _ _).alloc (kqa _) _;have B:(w.alloc (.cells (madeCells #[.bool false] m) 4)).heap.size=w.heap.size+1:=by simp
 obtain⟨W0,Lj⟩:=xq (w.alloc (.cells (madeCells #[.bool false] m) 4));rw[Lj] at Ls r0 W B;have HMM:=hid V;have c0:=r0.cell (i:=ws.length) (by omega);have f0:=r0.frozen ws.length;have R1:=hid (DF ws m V he r0);have hlm:(ws.length:Int)<(m:Int):=by omega
 have HE:=hid he;have Le:=hid ha2;have HZ0:=hid B;have Lm:=hid W;clear hr ho V Lj r0 he ha2 B W;go_enter func213,ntmps213;go_wp2_with fail;go_loopw [7] (λp wr=>∃k:Nat,k<=ws.length/\a<=k/\k%2=0/\p=.int .i64 ((k:Int)-2)/\wr.rowIs w.heap.size 4 m (rtF ws k)/\Below w.heap.size w wr) (λp _=>(intOf p+2).toNat)
 case atStart=>exact⟨ws.length,kqa _,ha,HE.out,rfl,R1.out,Lm.out.setCell (kqa _) _⟩
 obtain⟨k,q1,q2,Y,rfl,g,F⟩:=hrel;have U:=F.size;by_cases J:a+2<=k
 .obtain ⟨i,rfl⟩:∃i,k=i+2:=⟨k-2,by omega⟩;rw[show (((i+2:Nat):Int)-2)=(i:Int) by omega];have Kx:i%2=0:=by omega
  have N:=hid Kx;have g1:(a:Int)<=(i:Int):=by omega
  have g2:(0:Int)<=(i:Int):=by omega
  have E:=hid (at_c A ws c ws.length i wr rfl (by omega) (by omega) (HR.out.up F U) HO.out);cases b:stands ws i
  .have HN:=hid (show (blocks ws i).isSome=false by rw[dC (by omega) b];rfl);rw[(AQ b).1,b] at E;unfold mW Bk.val at E;dsimp only at E;have s:=hid g;clear b Y Kx g;go_wp2_with fail;refine E.out.mono ?_;rintro e H ⟨rfl,d⟩;have f:=(nI s.out d s.out.lt).alloc (.cells #[.int .i64 0,.int .i64 0,.int .i64 0,.int .i64 0,.bool false,.int .u64 0] 55);have t:=((F.trans (d.mono U)).alloc (kz7 U d.size) (.cells #[.int .i64 0,.int .i64 0,.int .i64 0,.int .i64 0,.bool false,.int .u64 0] 55));have o:i<m:=by omega
   have y:=f.cell o;have e2:=f.frozen i;unfold rtF at y;obtain⟨q,hq⟩:=xq ((decide (i+2<=i/\i%2=0)&&(blocks ws i).isSome));rw[hq] at y;have D:=hid (vS ws m i N.out f);rw[HN.out] at D;have O:=hid t;clear f t hq d;go_wp2;go_roundw
   case rel=>exact⟨i,by omega,by omega,N.out,by go_num,D.out,O.out.setCell (kqa _) _⟩
   case measure=>simp[intOf];omega
  have G:=aJ b;have HN:=hid (show (blocks ws i).isSome=(blocks ws (i+szAt ws i)).isSome by rw[aL (by omega) b,Option.isSome_map]);have Lg:(bkAt ws i).val=.agg #[.int .i64 (i:Int),.int .i64 ((szAt ws i:Nat):Int),.int .i64 ((wd ws i%256:Nat):Int),.int .i64 ((wd ws i/512%128:Nat):Int),.bool (wd ws i/256%2==1),.int .u64 ((wd ws (i+1):Nat):Int)]:=rfl;rw[(xM b).1,b,Lg] at E;have Lh:=hid (show (i+szAt ws i)%2=0 by omega);obtain⟨S,hS⟩:=xq (szAt ws i);obtain⟨K,hK⟩:∃K,((wd ws i%256:Nat):Int)=K:=⟨_,rfl⟩;obtain⟨T,hT⟩:∃T,((wd ws i/512%128:Nat):Int)=T:=⟨_,rfl⟩;obtain⟨M,hM⟩:=xq ((wd ws i/256%2==1));obtain⟨X,hX⟩:∃X,((wd ws (i+1):Nat):Int)=X:=⟨_,rfl⟩;rw[hS] at HN G Lh;rw[hS,hK,hT,hM,hX] at E;obtain⟨z1,z2,z3⟩:=G;have s:=hid g;clear b Kx g Lg hS hK hT hM hX z2;go_wp2_with fail;refine E.out.mono ?_;rintro e H ⟨rfl,d⟩;have f:=(nI s.out d s.out.lt).alloc (.cells #[.int .i64 (i:Int),.int .i64 (S:Int),.int .i64 K,.int .i64 T,.bool M,.int .u64 X] 55);have t:=((F.trans (d.mono U)).alloc (kz7 U d.size) (.cells #[.int .i64 (i:Int),.int .i64 (S:Int),.int .i64 K,.int .i64 T,.bool M,.int .u64 X] 55));have o:i<m:=by omega
  have Li:i+S<m:=by omega
  have htn:((i:Int)+(S:Int)).toNat=i+S:=by omega
  have hub:(i:Int)+(S:Int)<(m:Int):=by omega
  have hlb:(0:Int)<=(i:Int)+(S:Int):=by omega
  have Lb:=Bx.new H 55 #[.int .i64 (i:Int),.int .i64 (S:Int),.int .i64 K,.int .i64 T,.bool M,.int .u64 X];have e0:(H.alloc (.cells #[.int .i64 (i:Int),.int .i64 (S:Int),.int .i64 K,.int .i64 T,.bool M,.int .u64 X] 55)).cell? ⟨H.heap.size,1,none⟩=some (.int .i64 (S:Int)):=Lb.cell 1;have y:=f.cell o;have e2:=f.frozen i;have e3:=f.cell Li;unfold rtF at y e3;rw[show decide (i+2<=i+S/\(i+S)%2=0)=true by rw[kqo];exact⟨by omega,Lh.out⟩,kzq,<-HN.out] at e3;obtain⟨q,hq⟩:=xq ((decide (i+2<=i/\i%2=0)&&(blocks ws i).isSome));rw[hq] at y;have D:=hid (vS ws m i N.out f);obtain⟨r,hr⟩:=xq ((blocks ws i).isSome);rw[hr] at D e3;have O:=hid t;clear f t hq d hr Lb;obtain⟨w2,Lq⟩:∃w2,(H.alloc (.cells #[.int .i64 (i:Int),.int .i64 (S:Int),.int .i64 K,.int .i64 T,.bool M,.int .u64 X] 55))=w2:=⟨_,rfl⟩;rw[Lq] at e0 y e2 e3 D O;go_wp2;go_roundw
  case rel=>exact⟨i,by omega,by omega,N.out,by go_num,D.out,O.out.setCell (kqa _) _⟩
  case measure=>simp[intOf];omega
 obtain rfl:k=a:=by have:=Le.out;omega
 have hlt2:(k:Int)-2<(k:Int):=by omega
 have o:k<m:=by omega
 have y:=g.cell o;have ik:(k:Int)<(m:Int):=by omega
 have ik0:(0:Int)<=(k:Int):=by omega
 unfold rtF at y;rw[show decide (k<=k/\k%2=0)=true by rw[kqo];exact⟨kqa _,Y⟩,kzq] at y;have d1:decide ((k:Int)<0)=false:=by rw[kqh];omega
 have d2:decide ((ws.length:Int)<(k:Int))=false:=by rw[kqh];omega
 have d2n:decide (ws.length<k)=false:=by rw[kqh];omega
 clear J Y g;cases C:blocks ws k with
 | none =>rw[C] at y;have HN:=hid C;rw[show (none:Option (List Bk)).isSome=false from rfl] at y;clear C;go_wp2;go_ret2;exact⟨GC HN.out,F⟩
 | some l =>
  rw[C] at y;have Ll:=hid C;rw[show (some l).isSome=true from rfl] at y;clear C;have Ld:=hid F;clear F;obtain⟨i2,hi,B,Q,Lc⟩:=kzr lx;have HJ:=hid hi;have Lp:=hid B;have Lr:=hid Q;have Ln:=hid Lc;clear hi B Q Lc;go_wp2_with fail;clear y;go_loopw [1,10] (λp v wr=>∃(i:Nat) (j:List Bk),p=.int .i64 i/\i<=ws.length/\i%2=0/\blocks ws k=(blocks ws i).map (j ++ ·)/\j.length<=i/\wr.ownsRow w.heap.size 55 6 v j.length (j.flatMap Bk.cells)/\Below w.heap.size w wr) (λp _ _=>ws.length-(intOf p).toNat)
  case atStart=>exact⟨k,[],rfl,ha,Le.out,by simp,by simp,kq6 _ _ _ _,Ld.out⟩
  obtain⟨i,j,rfl,q2,Y,q4,q5,R,F⟩:=hrel;have U:=F.size;have Lt:=hid Y;have Ky:=hid q4;clear q4;by_cases J:i<ws.length
  .have Lf:i+1<ws.length:=by have:=HE.out;omega
   clear Y;have b:stands ws i=true:=by
    cases h:stands ws i with
    | true=>rfl
    | false=>have:=Ky.out;rw[dC J h,Ll.out] at this;cases this
   have G:=aJ b;have E:=hid (at_c A ws c ws.length i wr rfl (by omega) Lf (HR.out.up F U) HO.out);rw[(xM b).1,b] at E;have Eq:=hid (show blocks ws k=(blocks ws (i+szAt ws i)).map ((j++[bkAt ws i]) ++ ·) by
    rw[Ky.out,aL J b];cases blocks ws (i+szAt ws i)<;>simp)
   have Kz:=hid (cB Bk.cells j (bkAt ws i));have I:=bo ws i;obtain⟨x,hx⟩:=xq (bkAt ws i);obtain⟨z,La⟩:=xq (szAt ws i);rw[hx] at E Eq Kz I;rw[La] at Eq G I;have HX:=hid hx;obtain⟨xa,xs,xk,xt,xm,xn⟩:=x;dsimp only at I;subst I;unfold Bk.val at E;dsimp only at E;obtain⟨z1,z2,z3⟩:=G;have Lo:=hid z2;clear b hx La z2;go_wp2_with fail;refine E.out.mono ?_;rintro e H ⟨rfl,d⟩;have t:=F.trans (d.mono U);have u:=aa R d (kqa _);have Q:=t.size;go_wp2_with (at_builtin;refine kzh _ rfl _ _ 48 rfl w.heap.size 55 i2 _ 6 48 underlying48 HJ.out Lp.out Lr.out Ln.out rfl (by decide) _ _ _ rfl ((u.alloc _).alloc _) ⟨_,0,none⟩ 1 1 [.int .i64 xa,.int .i64 (z:Int),.int .i64 xk,.int .i64 xt,.bool xm,.int .u64 (xn:Int)] rfl rfl (mn _ _ _ (kqm _ _)) (by simp[Value.oneCell']) (by unfold maxLen;omega) (by omega) (by simp;omega) ?_;intro v1 w2 Z Kw _;have L:Bx w2 H.heap.size 55 #[.int .i64 xa,.int .i64 (z:Int),.int .i64 xk,.int .i64 xt,.bool xm,.int .u64 (xn:Int)]:=((Bx.new H 55 _).alloc _).grown Kw (rD u);have Lk:=aF (t.alloc Q (.cells #[.int .i64 xa,.int .i64 (z:Int),.int .i64 xk,.int .i64 xt,.bool xm,.int .u64 (xn:Int)] 55)) (by simp;omega) (u.alloc _) Kw;have hc1:w2.cell? ⟨H.heap.size,1,none⟩=some (.int .i64 (z:Int)):=L.cell 1;have hf1:=L.frozen 1;have hl1:=L.lt;clear Kw L);go_roundw
   case rel=>exact⟨i+z,j++[⟨xa,(z:Int),xk,xt,xm,xn⟩],by rw[kjn],by omega,by have:=Lt.out;have:=Lo.out;omega,Eq.out,by simp;omega,by rw[Kz.out,kqs];exact Z,Lk⟩
   case measure=>simp[intOf];omega
  have hi:i=ws.length:=by omega
  have HD:=hid (show blocks ws k=some j by rw[Ky.out,aD (by omega)];simp);clear hi Y;go_wp2;go_ret2;exact⟨DO HD.out R,F⟩
end Go.Proofs.YtpcajamacpbjcaaGreat
