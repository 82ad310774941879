/- Texts laid together: Img2 Ref14 Ref14S Ref15 Ref15F. -/
import Derived.Test.YtpcajamacpbjcaaGreatZKHead
import Derived.Test.YtpcajamacpbjcaaGreatZKRefs
set_option maxHeartbeats 16000000
set_option maxRecDepth 100000
set_option linter.all false
namespace Go.Proofs.YtpcajamacpbjcaaGreat
open Lib (hid)
open Go.RowKit
variable {ws:List Nat}{a g:Nat}{w w':World}
open Go.Proofs.Tryz
theorem qy(n:Nat)(w:World)(hn:n<=9223372036854775807):Calls prog 148 #[.int .i64 (n:Int)] w λe w'=>e=.returned (.bool (al (n:Int)))/\w=w':=by
 have H:Hid (∀b:Bool,(b=true↔256<=n/\n<=2048/\n%8=0)->b=al (n:Int)):=hid λb h=>by rw[kzr,ac,h];omega
 go_enter func148,ntmps148;go_wp2_with fail
 all_goals
  go_ret;exact⟨kh (H.out _ (by simp;omega)),rfl⟩
theorem lz(A:Option Addr)(n c:Nat)(w:World)(hn:n<=9223372036854775807):Calls prog 92 #[.slice A n c] w λe w'=>e=.returned (.int .i64 (jX n))/\w=w':=by
 cases a:al (n:Int)
 all_goals
  first
   | have b:=hid (aW a)
   | have b:=hid (bA a)
  have d:=hid a;clear a;go_enter func92,ntmps92;go_wp2_with fail;refine (qy n w hn).mono ?_;rintro e w1 ⟨rfl,rfl⟩;rw[d.out];go_wp2;go_ret;exact⟨by rw[b.out];rfl,rfl⟩
theorem rN(b:Bk)(w:World):Calls prog 291 #[b.val] w λe w'=>e=.returned (.int .i64 (iG b))/\Below w.heap.size w w':=by
 obtain⟨xa,xs,xk,xt,a,xn⟩:=b;unfold Bk.val;cases a
 all_goals
  go_enter func291,ntmps291;go_wp2_with fail
  all_goals
   go_ret;refine⟨?_,(kql _ _).alloc (kqg _) _⟩;(try simp only[ne_eq,kqx,kqi,kjf,kky,kqh,kzz] at *)
   first
    | (exfalso;omega)
    | exact mp (Ai (by simp only[reduceCtorEq,and_false,false_and,or_false,true_and];omega))
    | exact mp (AT (by simp only[reduceCtorEq,and_false,false_and,or_false,true_and];omega))
theorem GB(xa:Int)(S K T:Nat)(m:Bool)(xn:Nat)(w:World)(h1:K<256)(h2:T<128)(h3:S<65536):
 Calls prog 292 #[.agg #[.int .i64 xa,.int .i64 (S:Int),.int .i64 (K:Int),.int .i64 (T:Int),.bool m,.int .u64 (xn:Int)]] w λe w'=>e=.returned (.int .u64 ((cg ⟨xa,(S:Int),(K:Int),(T:Int),m,xn⟩:Nat):Int))/\Below w.heap.size w w':=by have d:=hid (λW=>nm K T S m W h1 h2 h3);have c:Hid (cg ⟨xa,(S:Int),(K:Int),(T:Int),m,xn⟩=K+nD m*256+T*512+S*65536+gc (K+nD m*256+T*512+S*65536)%4294967296*4294967296):=hid rfl;obtain⟨V,f⟩:=xq (K+nD m*256+T*512+S*65536+gc (K+nD m*256+T*512+S*65536)%4294967296*4294967296);rw[f] at d c;rw[c.out];clear f;go_enter func292,ntmps292;go_wp2_with fail;refine (d.out _).mono ?_;rintro e w1 ⟨rfl,a⟩;rw[kqn] at a;have b:=au a;clear a;go_wp2;go_ret;exact⟨rfl,b⟩
theorem vJ(x:Nat)(w:World)(hx:x<18446744073709551616):Calls prog 274 #[.int .u64 (x:Int)] w λe w'=>e=.returned (.tuple #[(Cp x).val,.bool (az x)])/\Below w.heap.size w w':=by
 have c:=hid (λW=>rN (ah x) W);have J:Hid (iG (ah x)=0->cg (ah x)=x->Cp x=ah x/\az x=true):=hid λh1 h2=>by
  have hb:iF (ah x)=true:=by
   cases X:iF (ah x) with
   | true=>rfl
   | false=>rw[l9 X] at h1;cases h1
  have:az x=true:=by simp[az,hb,h2]
  exact⟨(lB this).1,this⟩
 have z:Hid (iG (ah x)≠0\/cg (ah x)≠x->Cp x=lN/\az x=false):=hid λh=>by
  have:az x=false:=by
   cases X:iF (ah x) with
   | false=>simp[az,X]
   | true =>
    rcases h with h|h
    .exact absurd (ix X) h
    simp[az,X,h]
  exact⟨(ly this).1,this⟩
 have hx0:(0:Int)<=(x:Int):=by omega
 have i:(ah x).val=.agg #[.int .i64 0,.int .i64 ((x/65536%65536:Nat):Int),.int .i64 ((x%256:Nat):Int),.int .i64 ((x/512%128:Nat):Int),.bool (x/256%2==1),.int .u64 0]:=rfl;have m1:x%256<256:=kz3 _ (by omega);have m2:x/256%2<2:=kz3 _ (by omega);have m3:x/512%128<128:=kz3 _ (by omega);have m4:x/65536%65536<65536:=kz3 _ (by omega);have u:=hid (λW=>iM x 0 8 W hx (by omega));have y:=hid (λW=>iM x 8 1 W hx (by omega));have B:=hid (λW=>iM x 9 7 W hx (by omega));have t:=hid (λW=>iM x 16 16 W hx (by omega));rw[show bp x 0 8=x%256 by simp[bp]] at u;rw[show bp x 8 1=x/256%2 from rfl] at y;rw[show bp x 9 7=x/512%128 from rfl] at B;rw[show bp x 16 16=x/65536%65536 from rfl] at t;have d:=hid (λW=>GB 0 (x/65536%65536) (x%256) (x/512%128) (x/256%2==1) 0 W m1 m3 m4);rw[show (⟨0,((x/65536%65536:Nat):Int),((x%256:Nat):Int),((x/512%128:Nat):Int),(x/256%2==1),0⟩:Bk)=ah x from rfl] at d;rw[i] at c;have a:=hid i;have j:((((x/256%2:Nat):Int))==1)=(x/256%2==1):=by rw[kzr,kqx,kqx];omega
 obtain⟨K,hK⟩:=xq (x%256);obtain⟨M,hM⟩:=xq (x/256%2);obtain⟨T,hT⟩:=xq (x/512%128);obtain⟨S,hS⟩:=xq (x/65536%65536);rw[hK] at m1 u c d a;rw[hM] at m2 j y c d a;rw[hT] at m3 B c d a;rw[hS] at m4 t c d a;obtain⟨D,G⟩:=xq ((M==1));rw[G] at j c d a;obtain⟨V,q⟩:=xq (cg (ah x));obtain⟨R,k⟩:=xq (iG (ah x));rw[q,k] at J z;rw[k] at c;rw[q] at d;clear hx i hK hM hT hS G q k;go_enter func274,ntmps274;go_wp2_with fail;refine (u.out _).mono ?_;rintro e C ⟨rfl,rfl⟩;go_wp2_with fail;refine (y.out _).mono ?_;rintro e C ⟨rfl,rfl⟩;go_wp2_with fail;refine (B.out _).mono ?_;rintro e C ⟨rfl,rfl⟩;go_wp2_with fail;refine (t.out _).mono ?_;rintro e C ⟨rfl,rfl⟩;go_wp2_with fail;have l:=(Bx.new w 55 #[.int .i64 0,.int .i64 0,.int .i64 0,.int .i64 0,.bool false,.int .u64 0]).alloc (.cells #[.int .i64 0,.int .i64 (S:Int),.int .i64 (K:Int),.int .i64 (T:Int),.bool D,.int .u64 0] 55);have m:=Bx.new (w.alloc (.cells #[.int .i64 0,.int .i64 0,.int .i64 0,.int .i64 0,.bool false,.int .u64 0] 55)) 55 #[.int .i64 0,.int .i64 (S:Int),.int .i64 (K:Int),.int .i64 (T:Int),.bool D,.int .u64 0]
 have o:Below w.heap.size w ((w.alloc (.cells #[.int .i64 0,.int .i64 0,.int .i64 0,.int .i64 0,.bool false,.int .u64 0] 55)).alloc (.cells #[.int .i64 0,.int .i64 (S:Int),.int .i64 (K:Int),.int .i64 (T:Int),.bool D,.int .u64 0] 55)):=((kql _ _).alloc (kqg _) _).alloc (by simp) _;have I:((w.alloc (.cells #[.int .i64 0,.int .i64 0,.int .i64 0,.int .i64 0,.bool false,.int .u64 0] 55)).alloc (.cells #[.int .i64 0,.int .i64 (S:Int),.int .i64 (K:Int),.int .i64 (T:Int),.bool D,.int .u64 0] 55)).heap.size=w.heap.size+2:=by simp
 rw[kqn] at m;obtain⟨W0,Y⟩:∃W0,(w.alloc (.cells #[.int .i64 0,.int .i64 0,.int .i64 0,.int .i64 0,.bool false,.int .u64 0] 55)).alloc (.cells #[.int .i64 0,.int .i64 (S:Int),.int .i64 (K:Int),.int .i64 (T:Int),.bool D,.int .u64 0] 55)=W0:=⟨_,rfl⟩;rw[Y] at l m o I |-;clear Y;refine (c.out W0).mono ?_;rintro e C ⟨rfl,g⟩;have A:=o.trans (g.mono o.size);replace l:=l.up g (by omega);replace m:=m.up g (by omega);have hz1:w.heap.size+2<=C.heap.size:=by have:=g.size;omega
 obtain⟨c0,c1,c2,c3,c4,c5,f,cz⟩:=l.c6;obtain⟨d0,d1,d2,d3,d4,d5,df,dz⟩:=m.c6;have Q0:=hid l;have Q1:=hid m;have Q:=f 0;have H:=f 1;have E:=f 2;have F:=f 3;have O:=f 4;have U:=f 5;clear l m g o I df f j m1 m2 m3 m4;by_cases k:R=0
 .have Eq:(R != 0)=false:=by rw[kqq];exact k
  have Ja:=hid k;clear k Q H E F O U c0 c1 c2 c3 c4 c5;go_wp2_with fail;refine (d.out C).mono ?_;rintro e w2 ⟨rfl,n⟩;have P:=A.trans (n.mono A.size);have l:=Q0.out.up n (by omega);have m:=Q1.out.up n (by omega);clear d0 d1 d2 d3 d4 d5;obtain⟨c0,c1,c2,c3,c4,c5,f,cz⟩:=l.c6;obtain⟨d0,d1,d2,d3,d4,d5,df,dz⟩:=m.c6;have P0:=hid l;have Q:=f 0;have H:=f 1;have E:=f 2;have F:=f 3;have O:=f 4;have U:=f 5;clear l m n df f;by_cases q:V=x
  .obtain ⟨r,s⟩:=J.out Ja.out q;have N:=hid r;have L:=hid s;have Z:((V:Int) != (x:Int))=false:=by rw[kqq];omega
   clear q r s;go_wp2_with fail;refine kqv (v:=.tuple #[.agg #[.int .i64 0,.int .i64 (S:Int),.int .i64 (K:Int),.int .i64 (T:Int),.bool D,.int .u64 0],.bool true]) (aL results274 _ ((((((P0.out.set_ 0 _).set_ 1 _).set_ 2 _).set_ 3 _).set_ 4 _).set_ 5 _) rfl rfl) rfl ⟨by rw[N.out,L.out,a.out],?_⟩;exact (kzl (p:=⟨w.heap.size,5,none⟩) (kzl (p:=⟨w.heap.size,4,none⟩) (kzl (p:=⟨w.heap.size,3,none⟩) (kzl (p:=⟨w.heap.size,2,none⟩) (kzl (p:=⟨w.heap.size,1,none⟩) (kzl (p:=⟨w.heap.size,0,none⟩) P (kqg _) _) (kqg _) _) (kqg _) _) (kqg _) _) (kqg _) _) (kqg _) _)
  obtain⟨r,s⟩:=z.out (.inr q);have N:=hid r;have L:=hid s;have Z:((V:Int) != (x:Int))=true:=by rw[kqt];omega
  clear q r s;go_wp2_with fail;refine kqv (v:=.tuple #[.agg #[.int .i64 0,.int .i64 0,.int .i64 0,.int .i64 0,.bool false,.int .u64 0],.bool false]) (aL results274 _ ((((((P0.out.set_ 0 _).set_ 1 _).set_ 2 _).set_ 3 _).set_ 4 _).set_ 5 _) rfl rfl) rfl ⟨by rw[N.out,L.out];rfl,?_⟩;exact (kzl (p:=⟨w.heap.size,5,none⟩) (kzl (p:=⟨w.heap.size,4,none⟩) (kzl (p:=⟨w.heap.size,3,none⟩) (kzl (p:=⟨w.heap.size,2,none⟩) (kzl (p:=⟨w.heap.size,1,none⟩) (kzl (p:=⟨w.heap.size,0,none⟩) P (kqg _) _) (kqg _) _) (kqg _) _) (kqg _) _) (kqg _) _) (kqg _) _)
 obtain⟨r,s⟩:=z.out (.inl k);have N:=hid r;have L:=hid s;have Eq:(R != 0)=true:=by rw[kqt];exact k
 clear k r s;go_wp2_with fail;refine kqv (v:=.tuple #[.agg #[.int .i64 0,.int .i64 0,.int .i64 0,.int .i64 0,.bool false,.int .u64 0],.bool false]) (aL results274 _ ((((((Q0.out.set_ 0 _).set_ 1 _).set_ 2 _).set_ 3 _).set_ 4 _).set_ 5 _) rfl rfl) rfl ⟨by rw[N.out,L.out];rfl,?_⟩;exact (kzl (p:=⟨w.heap.size,5,none⟩) (kzl (p:=⟨w.heap.size,4,none⟩) (kzl (p:=⟨w.heap.size,3,none⟩) (kzl (p:=⟨w.heap.size,2,none⟩) (kzl (p:=⟨w.heap.size,1,none⟩) (kzl (p:=⟨w.heap.size,0,none⟩) A (kqg _) _) (kqg _) _) (kqg _) _) (kqg _) _) (kqg _) _) (kqg _) _)
theorem at_c(A:Option Addr)(ws:List Nat)(c n a:Nat)(w:World)(hn:ws.length=n)(hm:n<=1000000)(ha:a+1<n)(hr:RdW w w.heap.size A ws)(ho:∀x∈ws,x<18446744073709551616):
 Calls prog 263 #[.slice A n c,.int .i64 (a:Int)] w λe w'=>e=.returned (.tuple #[(stB ws a).val,.bool (stands ws a)])/\Below w.heap.size w w':=by
 subst hn;have HR:=hid hr;have s:=fd ho a;have g:=hid (λW=>vJ (wd ws a) W s);obtain⟨b,U,rfl,hb,Y⟩:=RdW.at_ hr (show a<ws.length by omega);obtain⟨b',off',e',-,R⟩:=RdW.at_ hr ha;cases e';rw[<-ce] at Y R;have ik0:(0:Int)<=(a:Int):=by omega
 have ik1:(a:Int)<(ws.length:Int):=by omega
 have d1:decide ((a:Int)<0)=false:=by rw[kqh];omega
 have d2:decide ((ws.length:Int)<=(a:Int))=false:=by rw[kqh];omega
 have ik2:(a:Int)+1<(ws.length:Int):=by omega
 have ik3:(0:Int)<=(a:Int)+1:=by omega
 have htn:((a:Int)+1).toNat=a+1:=by omega
 have k:(ah (wd ws a)).val=.agg #[.int .i64 0,.int .i64 ((szAt ws a:Nat):Int),.int .i64 ((wd ws a%256:Nat):Int),.int .i64 ((wd ws a/512%128:Nat):Int),.bool (wd ws a/256%2==1),.int .u64 0]:=rfl;have q:(bkAt ws a).val=.agg #[.int .i64 (a:Int),.int .i64 ((szAt ws a:Nat):Int),.int .i64 ((wd ws a%256:Nat):Int),.int .i64 ((wd ws a/512%128:Nat):Int),.bool (wd ws a/256%2==1),.int .u64 ((wd ws (a+1):Nat):Int)]:=rfl;have Q:szAt ws a<65536:=kz3 _ (by omega);have l:Hid (stands ws a=(az (wd ws a)&&decide ((szAt ws a:Int)<=(ws.length:Int)-a))):=hid rfl;have F:Hid (stands ws a=false->stB ws a=lN):=hid λh=>(z9 h).1;have P:Hid (stands ws a=true->stB ws a=bkAt ws a):=hid λh=>(wu h).1;cases o:az (wd ws a)
 .have j:stands ws a=false:=by rw[l.out,o];rfl
  have I:=hid (F.out j);have D:=hid j;obtain⟨t,V⟩:=ly o;rw[t,o] at g;clear hr k q o j t V s;unfold Bk.val lN at g;dsimp only at g;obtain⟨x,s⟩:=xq (wd ws a);rw[s] at Y g;clear s;go_enter func263,ntmps263;go_wp2_with fail;refine (g.out _).mono ?_;rintro e X ⟨rfl,d⟩;rw[kqn] at d;have m:=Bx.of_new d;have i:=au d;have H:=hid m;obtain⟨c0,c1,c2,c3,c4,c5,f,cz⟩:=m.c6;have G:=f 0;have C:=f 1;have z:=f 2;have B:=f 3;have N:=f 4;have J:=f 5;clear m f d;go_wp2_with fail;refine kqv (v:=.tuple #[.agg #[.int .i64 0,.int .i64 0,.int .i64 0,.int .i64 0,.bool false,.int .u64 0],.bool false]) (aL results263 _ ((lv H.out _ _ _ _ _ _).alloc _) rfl rfl) rfl ⟨by rw[I.out,D.out];rfl,(eX i (kqg _) _ _ _ _ _ _).alloc (by simp;have:=i.size;omega) _⟩
 obtain⟨t,V⟩:=lB o;rw[t,k,o] at g;have r:=hid q;obtain⟨S,O⟩:=xq (szAt ws a);obtain⟨K,hK⟩:=xq (wd ws a%256);obtain⟨T,Z⟩:=xq (wd ws a/512%128);obtain⟨M,hM⟩:=xq ((wd ws a/256%2==1));rw[O,hK,Z,hM] at g r;rw[O] at Q l;rw[o,kzx] at l;obtain⟨x,L⟩:=xq (wd ws a);obtain⟨y,E⟩:=xq (wd ws (a+1));rw[L] at Y g;rw[E] at R r;clear hr k q o t V s O hK Z hM L E;by_cases u:(ws.length:Int)<(a:Int)+S
 .have j:stands ws a=false:=by rw[l.out,kqh];omega
  have I:=hid (F.out j);have D:=hid j;clear j;go_enter func263,ntmps263;go_wp2_with fail;refine (g.out _).mono ?_;rintro e X ⟨rfl,d⟩;rw[kqn] at d;have m:=Bx.of_new d;have i:=au d;have H:=hid m;obtain⟨c0,c1,c2,c3,c4,c5,f,cz⟩:=m.c6;have G:=f 0;have C:=f 1;have z:=f 2;have B:=f 3;have N:=f 4;have J:=f 5;clear m f d;go_wp2_with fail;refine kqv (v:=.tuple #[.agg #[.int .i64 0,.int .i64 0,.int .i64 0,.int .i64 0,.bool false,.int .u64 0],.bool false]) (aL results263 _ ((lv H.out _ _ _ _ _ _).alloc _) rfl rfl) rfl ⟨by rw[I.out,D.out];rfl,(eX i (kqg _) _ _ _ _ _ _).alloc (by simp;have:=i.size;omega) _⟩
 have j:stands ws a=true:=by rw[l.out,kqo];omega
 have I:=hid (P.out j);have D:=hid j;have hle:(a:Int)+S<=(ws.length:Int):=by omega
 clear j u;go_enter func263,ntmps263;go_wp2_with fail;refine (g.out _).mono ?_;rintro e X ⟨rfl,d⟩;rw[kqn] at d;have m:=Bx.of_new d;have i:=au d;have H:=hid m;obtain⟨c0,c1,c2,c3,c4,c5,f,cz⟩:=m.c6;have G:=f 0;have C:=f 1;have z:=f 2;have B:=f 3;have N:=f 4;have J:=f 5;clear m f d;have hbw:b<X.heap.size:=by have:=i.size;omega
 have h1':=(i.cell (p:=⟨b,U+(a+1),none⟩) hb).trans R;have hwr:IntKind.i64.wrap ((a:Int)+1)=(a:Int)+1:=kqr _ (by omega);go_wp2_with fail;refine kqv (v:=.tuple #[.agg #[.int .i64 (a:Int),.int .i64 (S:Int),.int .i64 (K:Int),.int .i64 (T:Int),.bool M,.int .u64 (y:Int)],.bool true]) (aL results263 _ ((lv H.out _ _ _ _ _ _).alloc _) rfl rfl) rfl ⟨by rw[I.out,D.out,r.out],(eX i (kqg _) _ _ _ _ _ _).alloc (by simp;have:=i.size;omega) _⟩
def rH (ws:List Nat) (a:Nat):List Bk:=(blocks ws a).getD []
def Ct (ws:List Nat) (a:Nat) (e:Ending) (w':World):Prop:=∃A c,e=.returned (.tuple #[.slice A (rH ws a).length c,.bool (blocks ws a).isSome])/\RdB w' w'.heap.size A (rH ws a)/\(rH ws a).length<=c
def rtF (ws:List Nat) (i j:Nat):Value:=.bool (decide (i<=j/\j%2=0)&&(blocks ws j).isSome)
theorem Dw(h:blocks ws a=none):Ct ws a (.returned (.tuple #[.slice none 0 0,.bool false])) w':=by
 have:rH ws a=[]:=by simp[rH,h]
 exact⟨none,0,by rw[this,h];rfl,by rw[this];exact Rd.nil_,by rw[this];simp⟩
theorem x8{H:Nat}{v:Value}{l:List Bk}(h0:blocks ws a=some l)(h:w'.ownsRow H 55 6 v l.length (l.flatMap Bk.cells)):Ct ws a (.returned (.tuple #[v,.bool true])) w':=by
 have e:rH ws a=l:=by simp[rH,h0]
 have f:∃A c,v=.slice A l.length c/\l.length<=c:=by
  rcases h.2 with⟨rfl,d⟩|⟨g,cap,cur,rfl,_,_,b,_⟩
  .exact ⟨none,0,by rw[d],by omega⟩
  exact⟨_,_,rfl,b⟩
 obtain⟨A,c,rfl,b⟩:=f;exact⟨A,c,by rw[e,h0];rfl,by rw[e];exact Rd.of_own h,by rw[e];exact b⟩
theorem zM(ws:List Nat)(m:Nat)(hm:m=ws.length+1)(he:ws.length%2=0)(h:w.rowIs g 4 m (λ_=>.bool false)):(w.setCell ⟨g,ws.length,none⟩ (.bool true)).rowIs g 4 m (rtF ws ws.length):=
 (h.set ws.length (.bool true)).congr λi hi=>by
  unfold rtF
  by_cases e:i=ws.length
  .subst e
   rw[ay (kqg _)];simp[he]
  .rw[if_neg e]
   have:decide (ws.length<=i/\i%2=0)=false:=by rw[kqh];omega
   rw[this];rfl
theorem ve(ws:List Nat)(m i:Nat)(he:i%2=0)(h:w.rowIs g 4 m (rtF ws (i+2))):(w.setCell ⟨g,i,none⟩ (.bool (blocks ws i).isSome)).rowIs g 4 m (rtF ws i):=
 (h.set i _).congr λj _=>by
  unfold rtF
  by_cases e:j=i
  .subst e;simp[he]
  .rw[if_neg e]
   congr 2
   rw[decide_eq_decide]
   omega
theorem Ci:(prog.info? 4).map (λi=>(i.zero,i.size,i.bytes))=some (some (.bool false),1,1):=by kernel_rfl
theorem Cx(A:Option Addr)(ws:List Nat)(c n a:Nat)(w:World)(hn:ws.length=n)(hm:n<=100000)(he:n%2=0)(ha:a<=n)(ha2:a%2=0)(hr:RdW w w.heap.size A ws)(ho:∀x∈ws,x<18446744073709551616):
 Calls prog 213 #[.slice A n c,.int .i64 (a:Int)] w λe w'=>Ct ws a e w'/\Below w.heap.size w w':=by
 subst hn;have HR:=hid hr;have HO:=hid ho;obtain⟨m,V⟩:∃m,m=ws.length+1:=⟨_,rfl⟩;have Jo:(Instr.makeSlice 114 (.int .i64 ((ws.length:Int)+1)) (.int .i64 ((ws.length:Int)+1))).run prog w=.ok (.slice (some ⟨w.heap.size,0,none⟩) m m) (w.alloc (.cells (madeCells #[.bool false] m) 4)):=by have:=run_make_row' (P:=prog) 114 4 (.bool false) 1 underlying114 Ci rfl .i64 .i64 m (by omega) (by omega) w;rw[show ((m:Nat):Int)=(ws.length:Int)+1 by omega] at this;exact this
 have r0:=World.rowIs_made w (.bool false) m 4;have Eq:Below w.heap.size w (w.alloc (.cells (madeCells #[.bool false] m) 4)):=(kql _ _).alloc (kqg _) _;have B:(w.alloc (.cells (madeCells #[.bool false] m) 4)).heap.size=w.heap.size+1:=by simp
 obtain⟨W0,Jm⟩:=xq (w.alloc (.cells (madeCells #[.bool false] m) 4));rw[Jm] at Jo r0 Eq B;have HMM:=hid V;have c0:=r0.cell (i:=ws.length) (by omega);have f0:=r0.frozen ws.length;have R1:=hid (zM ws m V he r0);have hlm:(ws.length:Int)<(m:Int):=by omega
 have HE:=hid he;have Jc:=hid ha2;have HZ0:=hid B;have Jr:=hid Eq;clear hr ho V Jm r0 he ha2 B Eq;go_enter func213,ntmps213;go_wp2_with fail;go_loopw [7] (λp wr=>∃k:Nat,k<=ws.length/\a<=k/\k%2=0/\p=.int .i64 ((k:Int)-2)/\wr.rowIs w.heap.size 4 m (rtF ws k)/\Below w.heap.size w wr) (λp _=>(intOf p+2).toNat)
 case atStart=>exact⟨ws.length,kqg _,ha,HE.out,rfl,R1.out,Jr.out.setCell (kqg _) _⟩
 obtain⟨k,q1,q2,q3,rfl,g,F⟩:=hrel;have U:=F.size;by_cases L:a+2<=k
 .obtain ⟨i,rfl⟩:∃i,k=i+2:=⟨k-2,by omega⟩;rw[show (((i+2:Nat):Int)-2)=(i:Int) by omega];have Jb:i%2=0:=by omega
  have I:=hid Jb;have g1:(a:Int)<=(i:Int):=by omega
  have g2:(0:Int)<=(i:Int):=by omega
  have C:=hid (at_c A ws c ws.length i wr rfl (by omega) (by omega) (HR.out.up F U) HO.out);cases b:stands ws i
  .have HN:=hid (show (blocks ws i).isSome=false by rw[cF (by omega) b];rfl);rw[(z9 b).1,b] at C;unfold lN Bk.val at C;dsimp only at C;have o:=hid g;clear b q3 Jb g;go_wp2_with fail;refine C.out.mono ?_;rintro e H ⟨rfl,d⟩;have f:=(mZ o.out d o.out.lt).alloc (.cells #[.int .i64 0,.int .i64 0,.int .i64 0,.int .i64 0,.bool false,.int .u64 0] 55);have s:=((F.trans (d.mono U)).alloc (kza U d.size) (.cells #[.int .i64 0,.int .i64 0,.int .i64 0,.int .i64 0,.bool false,.int .u64 0] 55));have t:i<m:=by omega
   have y:=f.cell t;have e2:=f.frozen i;unfold rtF at y;obtain⟨q,hq⟩:=xq ((decide (i+2<=i/\i%2=0)&&(blocks ws i).isSome));rw[hq] at y;have D:=hid (ve ws m i I.out f);rw[HN.out] at D;have N:=hid s;clear f s hq d;go_wp2;go_roundw
   case rel=>exact⟨i,by omega,by omega,I.out,by go_num,D.out,N.out.setCell (kqg _) _⟩
   case measure=>simp[intOf];omega
  have G:=aC b;have HN:=hid (show (blocks ws i).isSome=(blocks ws (i+szAt ws i)).isSome by rw[aG (by omega) b,Option.isSome_map]);have Jf:(bkAt ws i).val=.agg #[.int .i64 (i:Int),.int .i64 ((szAt ws i:Nat):Int),.int .i64 ((wd ws i%256:Nat):Int),.int .i64 ((wd ws i/512%128:Nat):Int),.bool (wd ws i/256%2==1),.int .u64 ((wd ws (i+1):Nat):Int)]:=rfl;rw[(wu b).1,b,Jf] at C;have Jk:=hid (show (i+szAt ws i)%2=0 by omega);obtain⟨S,hS⟩:=xq (szAt ws i);obtain⟨K,hK⟩:∃K,((wd ws i%256:Nat):Int)=K:=⟨_,rfl⟩;obtain⟨T,hT⟩:∃T,((wd ws i/512%128:Nat):Int)=T:=⟨_,rfl⟩;obtain⟨M,hM⟩:=xq ((wd ws i/256%2==1));obtain⟨X,hX⟩:∃X,((wd ws (i+1):Nat):Int)=X:=⟨_,rfl⟩;rw[hS] at HN G Jk;rw[hS,hK,hT,hM,hX] at C;obtain⟨z1,z2,z3⟩:=G;have o:=hid g;clear b Jb g Jf hS hK hT hM hX z2;go_wp2_with fail;refine C.out.mono ?_;rintro e H ⟨rfl,d⟩;have f:=(mZ o.out d o.out.lt).alloc (.cells #[.int .i64 (i:Int),.int .i64 (S:Int),.int .i64 K,.int .i64 T,.bool M,.int .u64 X] 55);have s:=((F.trans (d.mono U)).alloc (kza U d.size) (.cells #[.int .i64 (i:Int),.int .i64 (S:Int),.int .i64 K,.int .i64 T,.bool M,.int .u64 X] 55));have t:i<m:=by omega
  have Jd:i+S<m:=by omega
  have htn:((i:Int)+(S:Int)).toNat=i+S:=by omega
  have hub:(i:Int)+(S:Int)<(m:Int):=by omega
  have hlb:(0:Int)<=(i:Int)+(S:Int):=by omega
  have Jl:=Bx.new H 55 #[.int .i64 (i:Int),.int .i64 (S:Int),.int .i64 K,.int .i64 T,.bool M,.int .u64 X];have e0:(H.alloc (.cells #[.int .i64 (i:Int),.int .i64 (S:Int),.int .i64 K,.int .i64 T,.bool M,.int .u64 X] 55)).cell? ⟨H.heap.size,1,none⟩=some (.int .i64 (S:Int)):=Jl.cell 1;have y:=f.cell t;have e2:=f.frozen i;have e3:=f.cell Jd;unfold rtF at y e3;rw[show decide (i+2<=i+S/\(i+S)%2=0)=true by rw[kqo];exact⟨by omega,Jk.out⟩,kzx,<-HN.out] at e3;obtain⟨q,hq⟩:=xq ((decide (i+2<=i/\i%2=0)&&(blocks ws i).isSome));rw[hq] at y;have D:=hid (ve ws m i I.out f);obtain⟨r,hr⟩:=xq ((blocks ws i).isSome);rw[hr] at D e3;have N:=hid s;clear f s hq d hr Jl;obtain⟨w2,Jt⟩:∃w2,(H.alloc (.cells #[.int .i64 (i:Int),.int .i64 (S:Int),.int .i64 K,.int .i64 T,.bool M,.int .u64 X] 55))=w2:=⟨_,rfl⟩;rw[Jt] at e0 y e2 e3 D N;go_wp2;go_roundw
  case rel=>exact⟨i,by omega,by omega,I.out,by go_num,D.out,N.out.setCell (kqg _) _⟩
  case measure=>simp[intOf];omega
 obtain rfl:k=a:=by have:=Jc.out;omega
 have hlt2:(k:Int)-2<(k:Int):=by omega
 have t:k<m:=by omega
 have y:=g.cell t;have ik:(k:Int)<(m:Int):=by omega
 have ik0:(0:Int)<=(k:Int):=by omega
 unfold rtF at y;rw[show decide (k<=k/\k%2=0)=true by rw[kqo];exact⟨kqg _,q3⟩,kzx] at y;have d1:decide ((k:Int)<0)=false:=by rw[kqh];omega
 have d2:decide ((ws.length:Int)<(k:Int))=false:=by rw[kqh];omega
 have d2n:decide (ws.length<k)=false:=by rw[kqh];omega
 clear L q3 g;cases E:blocks ws k with
 | none =>rw[E] at y;have HN:=hid E;rw[show (none:Option (List Bk)).isSome=false from rfl] at y;clear E;go_wp2;go_ret2;exact⟨Dw HN.out,F⟩
 | some l =>
  rw[E] at y;have Jw:=hid E;rw[show (some l).isSome=true from rfl] at y;clear E;have Jj:=hid F;clear F;obtain⟨i2,hi,B,Q,Je⟩:=kzt kL;have HJ:=hid hi;have Jv:=hid B;have Js:=hid Q;have Ju:=hid Je;clear hi B Q Je;go_wp2_with fail;clear y;go_loopw [1,10] (λp v wr=>∃(i:Nat) (j:List Bk),p=.int .i64 i/\i<=ws.length/\i%2=0/\blocks ws k=(blocks ws i).map (j ++ ·)/\j.length<=i/\wr.ownsRow w.heap.size 55 6 v j.length (j.flatMap Bk.cells)/\Below w.heap.size w wr) (λp _ _=>ws.length-(intOf p).toNat)
  case atStart=>exact⟨k,[],rfl,ha,Jc.out,by simp,by simp,kq3 _ _ _ _,Jj.out⟩
  obtain⟨i,j,rfl,q2,q3,q4,q5,R,F⟩:=hrel;have U:=F.size;have Jp:=hid q3;have W:=hid q4;clear q4;by_cases L:i<ws.length
  .have Jh:i+1<ws.length:=by have:=HE.out;omega
   clear q3;have b:stands ws i=true:=by
    cases h:stands ws i with
    | true=>rfl
    | false=>have:=W.out;rw[cF L h,Jw.out] at this;cases this
   have G:=aC b;have C:=hid (at_c A ws c ws.length i wr rfl (by omega) Jh (HR.out.up F U) HO.out);rw[(wu b).1,b] at C;have Z:=hid (show blocks ws k=(blocks ws (i+szAt ws i)).map ((j++[bkAt ws i]) ++ ·) by
    rw[W.out,aG L b];cases blocks ws (i+szAt ws i)<;>simp)
   have Ji:=hid (bP Bk.cells j (bkAt ws i));have O:=aV ws i;obtain⟨x,hx⟩:=xq (bkAt ws i);obtain⟨z,Jg⟩:=xq (szAt ws i);rw[hx] at C Z Ji O;rw[Jg] at Z G O;have HX:=hid hx;obtain⟨xa,xs,xk,xt,xm,xn⟩:=x;dsimp only at O;subst O;unfold Bk.val at C;dsimp only at C;obtain⟨z1,z2,z3⟩:=G;have Jn:=hid z2;clear b hx Jg z2;go_wp2_with fail;refine C.out.mono ?_;rintro e H ⟨rfl,d⟩;have s:=F.trans (d.mono U);have u:=aj R d (kqg _);have Q:=s.size;go_wp2_with (at_builtin;refine kzn _ rfl _ _ 48 rfl w.heap.size 55 i2 _ 6 48 underlying48 HJ.out Jv.out Js.out Ju.out rfl (by decide) _ _ _ rfl ((u.alloc _).alloc _) ⟨_,0,none⟩ 1 1 [.int .i64 xa,.int .i64 (z:Int),.int .i64 xk,.int .i64 xt,.bool xm,.int .u64 (xn:Int)] rfl rfl (kU _ _ _ (kqn _ _)) (by simp[Value.oneCell']) (by unfold maxLen;omega) (by omega) (by simp;omega) ?_;intro v1 w2 Ja Y _;have J:Bx w2 H.heap.size 55 #[.int .i64 xa,.int .i64 (z:Int),.int .i64 xk,.int .i64 xt,.bool xm,.int .u64 (xn:Int)]:=((Bx.new H 55 _).alloc _).grown Y (pL u);have Jq:=aw (s.alloc Q (.cells #[.int .i64 xa,.int .i64 (z:Int),.int .i64 xk,.int .i64 xt,.bool xm,.int .u64 (xn:Int)] 55)) (by simp;omega) (u.alloc _) Y;have hc1:w2.cell? ⟨H.heap.size,1,none⟩=some (.int .i64 (z:Int)):=J.cell 1;have hf1:=J.frozen 1;have hl1:=J.lt;clear Y J);go_roundw
   case rel=>exact⟨i+z,j++[⟨xa,(z:Int),xk,xt,xm,xn⟩],by rw[kju],by omega,by have:=Jp.out;have:=Jn.out;omega,Z.out,by simp;omega,by rw[Ji.out,kqw];exact Ja,Jq⟩
   case measure=>simp[intOf];omega
  have hi:i=ws.length:=by omega
  have HD:=hid (show blocks ws k=some j by rw[W.out,ay (by omega)];simp);clear hi q3;go_wp2;go_ret2;exact⟨x8 HD.out R,F⟩
end Go.Proofs.YtpcajamacpbjcaaGreat
