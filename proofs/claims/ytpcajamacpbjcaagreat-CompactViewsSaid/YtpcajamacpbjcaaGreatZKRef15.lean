/- Texts laid together: Img2 Ref14 Ref14S Ref15 Ref15F. -/
import Derived.Test.YtpcajamacpbjcaaGreatZKHead
import Derived.Test.YtpcajamacpbjcaaGreatZKRefs
set_option maxHeartbeats 16000000
set_option maxRecDepth 100000
set_option linter.all false
namespace Go.Proofs.YtpcajamacpbjcaaGreat
open Lib (hid)
open Go.RowKit
variable {ws:List Nat}{a g:Nat}{w w':World}
open Go.Proofs.Tryz
theorem qm(n:Nat)(w:World)(hn:n<=9223372036854775807):Calls prog 148 #[.int .i64 (n:Int)] w λe w'=>e=.returned (.bool (ak (n:Int)))/\w=w':=by
 have H:Hid (∀b:Bool,(b=true↔256<=n/\n<=2048/\n%8=0)->b=ak (n:Int)):=hid λb h=>by rw[kzk,af,h];omega
 go_enter func148,ntmps148;go_wp2_with fail
 all_goals
  go_ret;exact⟨kB (H.out _ (by simp;omega)),rfl⟩
theorem fv(A:Option Addr)(n c:Nat)(w:World)(hn:n<=9223372036854775807):Calls prog 92 #[.slice A n c] w λe w'=>e=.returned (.int .i64 (kh n))/\w=w':=by
 cases a:ak (n:Int)
 all_goals
  first
   | have b:=hid (aW a)
   | have b:=hid (bJ a)
  have d:=hid a;clear a;go_enter func92,ntmps92;go_wp2_with fail;refine (qm n w hn).mono ?_;rintro e w1 ⟨rfl,rfl⟩;rw[d.out];go_wp2;go_ret;exact⟨by rw[b.out];rfl,rfl⟩
theorem pX(b:Bk)(w:World):Calls prog 291 #[b.val] w λe w'=>e=.returned (.int .i64 (iI b))/\Below w.heap.size w w':=by
 obtain⟨xa,xs,xk,xt,a,xn⟩:=b;unfold Bk.val;cases a
 all_goals
  go_enter func291,ntmps291;go_wp2_with fail
  all_goals
   go_ret;refine⟨?_,(kqk _ _).alloc (kqb _) _⟩;(try simp only[ne_eq,kqu,kqi,kxo,kkr,kqc,kzw] at *)
   first
    | (exfalso;omega)
    | exact l5 (yo (by simp only[reduceCtorEq,and_false,false_and,or_false,true_and];omega))
    | exact l5 (Af (by simp only[reduceCtorEq,and_false,false_and,or_false,true_and];omega))
theorem Dm(xa:Int)(S K T:Nat)(m:Bool)(xn:Nat)(w:World)(h1:K<256)(h2:T<128)(h3:S<65536):
 Calls prog 292 #[.agg #[.int .i64 xa,.int .i64 (S:Int),.int .i64 (K:Int),.int .i64 (T:Int),.bool m,.int .u64 (xn:Int)]] w λe w'=>e=.returned (.int .u64 ((cC ⟨xa,(S:Int),(K:Int),(T:Int),m,xn⟩:Nat):Int))/\Below w.heap.size w w':=by have d:=hid (λW=>kG K T S m W h1 h2 h3);have c:Hid (cC ⟨xa,(S:Int),(K:Int),(T:Int),m,xn⟩=K+lO m*256+T*512+S*65536+iH (K+lO m*256+T*512+S*65536)%4294967296*4294967296):=hid rfl;obtain⟨V,f⟩:=xq (K+lO m*256+T*512+S*65536+iH (K+lO m*256+T*512+S*65536)%4294967296*4294967296);rw[f] at d c;rw[c.out];clear f;go_enter func292,ntmps292;go_wp2_with fail;refine (d.out _).mono ?_;rintro e w1 ⟨rfl,a⟩;rw[kqn] at a;have b:=ao a;clear a;go_wp2;go_ret;exact⟨rfl,b⟩
theorem om(x:Nat)(w:World)(hx:x<18446744073709551616):Calls prog 274 #[.int .u64 (x:Int)] w λe w'=>e=.returned (.tuple #[(ze x).val,.bool (ay x)])/\Below w.heap.size w w':=by
 have c:=hid (λW=>pX (ah x) W);have Y:Hid (iI (ah x)=0->cC (ah x)=x->ze x=ah x/\ay x=true):=hid λh1 h2=>by
  have hb:iF (ah x)=true:=by
   cases O:iF (ah x) with
   | true=>rfl
   | false=>rw[l8 O] at h1;cases h1
  have:ay x=true:=by simp[ay,hb,h2]
  exact⟨(kr this).1,this⟩
 have A:Hid (iI (ah x)≠0\/cC (ah x)≠x->ze x=lG/\ay x=false):=hid λh=>by
  have:ay x=false:=by
   cases O:iF (ah x) with
   | false=>simp[ay,O]
   | true =>
    rcases h with h|h
    .exact absurd (iB O) h
    simp[ay,O,h]
  exact⟨(lx this).1,this⟩
 have hx0:(0:Int)<=(x:Int):=by omega
 have g:(ah x).val=.agg #[.int .i64 0,.int .i64 ((x/65536%65536:Nat):Int),.int .i64 ((x%256:Nat):Int),.int .i64 ((x/512%128:Nat):Int),.bool (x/256%2==1),.int .u64 0]:=rfl;have m1:x%256<256:=kz1 _ (by omega);have m2:x/256%2<2:=kz1 _ (by omega);have m3:x/512%128<128:=kz1 _ (by omega);have m4:x/65536%65536<65536:=kz1 _ (by omega);have t:=hid (λW=>jg x 0 8 W hx (by omega));have u:=hid (λW=>jg x 8 1 W hx (by omega));have y:=hid (λW=>jg x 9 7 W hx (by omega));have z:=hid (λW=>jg x 16 16 W hx (by omega));rw[show bD x 0 8=x%256 by simp[bD]] at t;rw[show bD x 8 1=x/256%2 from rfl] at u;rw[show bD x 9 7=x/512%128 from rfl] at y;rw[show bD x 16 16=x/65536%65536 from rfl] at z;have d:=hid (λW=>Dm 0 (x/65536%65536) (x%256) (x/512%128) (x/256%2==1) 0 W m1 m3 m4);rw[show (⟨0,((x/65536%65536:Nat):Int),((x%256:Nat):Int),((x/512%128:Nat):Int),(x/256%2==1),0⟩:Bk)=ah x from rfl] at d;rw[g] at c;have a:=hid g;have j:((((x/256%2:Nat):Int))==1)=(x/256%2==1):=by rw[kzk,kqu,kqu];omega
 obtain⟨K,hK⟩:=xq (x%256);obtain⟨M,hM⟩:=xq (x/256%2);obtain⟨T,hT⟩:=xq (x/512%128);obtain⟨S,hS⟩:=xq (x/65536%65536);rw[hK] at m1 t c d a;rw[hM] at m2 j u c d a;rw[hT] at m3 y c d a;rw[hS] at m4 z c d a;obtain⟨D,Q⟩:=xq ((M==1));rw[Q] at j c d a;obtain⟨V,s⟩:=xq (cC (ah x));obtain⟨R,m⟩:=xq (iI (ah x));rw[s,m] at Y A;rw[m] at c;rw[s] at d;clear hx g hK hM hT hS Q s m;go_enter func274,ntmps274;go_wp2_with fail;refine (t.out _).mono ?_;rintro e C ⟨rfl,rfl⟩;go_wp2_with fail;refine (u.out _).mono ?_;rintro e C ⟨rfl,rfl⟩;go_wp2_with fail;refine (y.out _).mono ?_;rintro e C ⟨rfl,rfl⟩;go_wp2_with fail;refine (z.out _).mono ?_;rintro e C ⟨rfl,rfl⟩;go_wp2_with fail;have l:=(Bx.new w 55 #[.int .i64 0,.int .i64 0,.int .i64 0,.int .i64 0,.bool false,.int .u64 0]).alloc (.cells #[.int .i64 0,.int .i64 (S:Int),.int .i64 (K:Int),.int .i64 (T:Int),.bool D,.int .u64 0] 55);have k:=Bx.new (w.alloc (.cells #[.int .i64 0,.int .i64 0,.int .i64 0,.int .i64 0,.bool false,.int .u64 0] 55)) 55 #[.int .i64 0,.int .i64 (S:Int),.int .i64 (K:Int),.int .i64 (T:Int),.bool D,.int .u64 0]
 have n:Below w.heap.size w ((w.alloc (.cells #[.int .i64 0,.int .i64 0,.int .i64 0,.int .i64 0,.bool false,.int .u64 0] 55)).alloc (.cells #[.int .i64 0,.int .i64 (S:Int),.int .i64 (K:Int),.int .i64 (T:Int),.bool D,.int .u64 0] 55)):=((kqk _ _).alloc (kqb _) _).alloc (by simp) _;have E:((w.alloc (.cells #[.int .i64 0,.int .i64 0,.int .i64 0,.int .i64 0,.bool false,.int .u64 0] 55)).alloc (.cells #[.int .i64 0,.int .i64 (S:Int),.int .i64 (K:Int),.int .i64 (T:Int),.bool D,.int .u64 0] 55)).heap.size=w.heap.size+2:=by simp
 rw[kqn] at k;obtain⟨W0,G⟩:∃W0,(w.alloc (.cells #[.int .i64 0,.int .i64 0,.int .i64 0,.int .i64 0,.bool false,.int .u64 0] 55)).alloc (.cells #[.int .i64 0,.int .i64 (S:Int),.int .i64 (K:Int),.int .i64 (T:Int),.bool D,.int .u64 0] 55)=W0:=⟨_,rfl⟩;rw[G] at l k n E |-;clear G;refine (c.out W0).mono ?_;rintro e C ⟨rfl,i⟩;have B:=n.trans (i.mono n.size);replace l:=l.up i (by omega);replace k:=k.up i (by omega);have hz1:w.heap.size+2<=C.heap.size:=by have:=i.size;omega
 obtain⟨c0,c1,c2,c3,c4,c5,f,cz⟩:=l.c6;obtain⟨d0,d1,d2,d3,d4,d5,Z,dz⟩:=k.c6;have Q0:=hid l;have Q1:=hid k;have X:=f 0;have N:=f 1;have I:=f 2;have U:=f 3;have P:=f 4;have F:=f 5;clear l k i n E Z f j m1 m2 m3 m4;by_cases m:R=0
 .have Eq:(R != 0)=false:=by rw[kqp];exact m
  have Fp:=hid m;clear m X N I U P F c0 c1 c2 c3 c4 c5;go_wp2_with fail;refine (d.out C).mono ?_;rintro e w2 ⟨rfl,o⟩;have L:=B.trans (o.mono B.size);have l:=Q0.out.up o (by omega);have k:=Q1.out.up o (by omega);clear d0 d1 d2 d3 d4 d5;obtain⟨c0,c1,c2,c3,c4,c5,f,cz⟩:=l.c6;obtain⟨d0,d1,d2,d3,d4,d5,Z,dz⟩:=k.c6;have P0:=hid l;have X:=f 0;have N:=f 1;have I:=f 2;have U:=f 3;have P:=f 4;have F:=f 5;clear l k o Z f;by_cases s:V=x
  .obtain ⟨r,q⟩:=Y.out Fp.out s;have J:=hid r;have H:=hid q;have Fo:((V:Int) != (x:Int))=false:=by rw[kqp];omega
   clear s r q;go_wp2_with fail;refine kqr (v:=.tuple #[.agg #[.int .i64 0,.int .i64 (S:Int),.int .i64 (K:Int),.int .i64 (T:Int),.bool D,.int .u64 0],.bool true]) (aS results274 _ ((((((P0.out.set_ 0 _).set_ 1 _).set_ 2 _).set_ 3 _).set_ 4 _).set_ 5 _) rfl rfl) rfl ⟨by rw[J.out,H.out,a.out],?_⟩;exact (kq5 (p:=⟨w.heap.size,5,none⟩) (kq5 (p:=⟨w.heap.size,4,none⟩) (kq5 (p:=⟨w.heap.size,3,none⟩) (kq5 (p:=⟨w.heap.size,2,none⟩) (kq5 (p:=⟨w.heap.size,1,none⟩) (kq5 (p:=⟨w.heap.size,0,none⟩) L (kqb _) _) (kqb _) _) (kqb _) _) (kqb _) _) (kqb _) _) (kqb _) _)
  obtain⟨r,q⟩:=A.out (.inr s);have J:=hid r;have H:=hid q;have Fo:((V:Int) != (x:Int))=true:=by rw[kqt];omega
  clear s r q;go_wp2_with fail;refine kqr (v:=.tuple #[.agg #[.int .i64 0,.int .i64 0,.int .i64 0,.int .i64 0,.bool false,.int .u64 0],.bool false]) (aS results274 _ ((((((P0.out.set_ 0 _).set_ 1 _).set_ 2 _).set_ 3 _).set_ 4 _).set_ 5 _) rfl rfl) rfl ⟨by rw[J.out,H.out];rfl,?_⟩;exact (kq5 (p:=⟨w.heap.size,5,none⟩) (kq5 (p:=⟨w.heap.size,4,none⟩) (kq5 (p:=⟨w.heap.size,3,none⟩) (kq5 (p:=⟨w.heap.size,2,none⟩) (kq5 (p:=⟨w.heap.size,1,none⟩) (kq5 (p:=⟨w.heap.size,0,none⟩) L (kqb _) _) (kqb _) _) (kqb _) _) (kqb _) _) (kqb _) _) (kqb _) _)
 obtain⟨r,q⟩:=A.out (.inl m);have J:=hid r;have H:=hid q;have Eq:(R != 0)=true:=by rw[kqt];exact m
 clear m r q;go_wp2_with fail;refine kqr (v:=.tuple #[.agg #[.int .i64 0,.int .i64 0,.int .i64 0,.int .i64 0,.bool false,.int .u64 0],.bool false]) (aS results274 _ ((((((Q0.out.set_ 0 _).set_ 1 _).set_ 2 _).set_ 3 _).set_ 4 _).set_ 5 _) rfl rfl) rfl ⟨by rw[J.out,H.out];rfl,?_⟩;exact (kq5 (p:=⟨w.heap.size,5,none⟩) (kq5 (p:=⟨w.heap.size,4,none⟩) (kq5 (p:=⟨w.heap.size,3,none⟩) (kq5 (p:=⟨w.heap.size,2,none⟩) (kq5 (p:=⟨w.heap.size,1,none⟩) (kq5 (p:=⟨w.heap.size,0,none⟩) B (kqb _) _) (kqb _) _) (kqb _) _) (kqb _) _) (kqb _) _) (kqb _) _)
theorem at_c(A:Option Addr)(ws:List Nat)(c n a:Nat)(w:World)(hn:ws.length=n)(hm:n<=1000000)(ha:a+1<n)(hr:RdW w w.heap.size A ws)(ho:∀x∈ws,x<18446744073709551616):
 Calls prog 263 #[.slice A n c,.int .i64 (a:Int)] w λe w'=>e=.returned (.tuple #[(stB ws a).val,.bool (stands ws a)])/\Below w.heap.size w w':=by
 subst hn;have HR:=hid hr;have s:=eX ho a;have g:=hid (λW=>om (wd ws a) W s);obtain⟨b,Y,rfl,hb,V⟩:=RdW.at_ hr (show a<ws.length by omega);obtain⟨b',off',e',-,R⟩:=RdW.at_ hr ha;cases e';rw[<-bI] at V R;have ik0:(0:Int)<=(a:Int):=by omega
 have ik1:(a:Int)<(ws.length:Int):=by omega
 have d1:decide ((a:Int)<0)=false:=by rw[kqc];omega
 have d2:decide ((ws.length:Int)<=(a:Int))=false:=by rw[kqc];omega
 have ik2:(a:Int)+1<(ws.length:Int):=by omega
 have ik3:(0:Int)<=(a:Int)+1:=by omega
 have htn:((a:Int)+1).toNat=a+1:=by omega
 have m:(ah (wd ws a)).val=.agg #[.int .i64 0,.int .i64 ((szAt ws a:Nat):Int),.int .i64 ((wd ws a%256:Nat):Int),.int .i64 ((wd ws a/512%128:Nat):Int),.bool (wd ws a/256%2==1),.int .u64 0]:=rfl;have q:(bkAt ws a).val=.agg #[.int .i64 (a:Int),.int .i64 ((szAt ws a:Nat):Int),.int .i64 ((wd ws a%256:Nat):Int),.int .i64 ((wd ws a/512%128:Nat):Int),.bool (wd ws a/256%2==1),.int .u64 ((wd ws (a+1):Nat):Int)]:=rfl;have X:szAt ws a<65536:=kz1 _ (by omega);have j:Hid (stands ws a=(ay (wd ws a)&&decide ((szAt ws a:Int)<=(ws.length:Int)-a))):=hid rfl;have N:Hid (stands ws a=false->stB ws a=lG):=hid λh=>(y6 h).1;have U:Hid (stands ws a=true->stB ws a=bkAt ws a):=hid λh=>(wv h).1;cases o:ay (wd ws a)
 .have l:stands ws a=false:=by rw[j.out,o];rfl
  have B:=hid (N.out l);have L:=hid l;obtain⟨J,Q⟩:=lx o;rw[J,o] at g;clear hr m q o l J Q s;unfold Bk.val lG at g;dsimp only at g;obtain⟨x,s⟩:=xq (wd ws a);rw[s] at V g;clear s;go_enter func263,ntmps263;go_wp2_with fail;refine (g.out _).mono ?_;rintro e P ⟨rfl,d⟩;rw[kqn] at d;have k:=Bx.of_new d;have i:=ao d;have z:=hid k;obtain⟨c0,Z,c2,c3,c4,c5,f,cz⟩:=k.c6;have F:=f 0;have D:=f 1;have t:=f 2;have E:=f 3;have u:=f 4;have I:=f 5;clear k f d;go_wp2_with fail;refine kqr (v:=.tuple #[.agg #[.int .i64 0,.int .i64 0,.int .i64 0,.int .i64 0,.bool false,.int .u64 0],.bool false]) (aS results263 _ ((lC z.out _ _ _ _ _ _).alloc _) rfl rfl) rfl ⟨by rw[B.out,L.out];rfl,(ft i (kqb _) _ _ _ _ _ _).alloc (by simp;have:=i.size;omega) _⟩
 obtain⟨J,Q⟩:=kr o;rw[J,m,o] at g;have r:=hid q;obtain⟨S,O⟩:=xq (szAt ws a);obtain⟨K,hK⟩:=xq (wd ws a%256);obtain⟨T,hT⟩:=xq (wd ws a/512%128);obtain⟨M,hM⟩:=xq ((wd ws a/256%2==1));rw[O,hK,hT,hM] at g r;rw[O] at X j;rw[o,kzz] at j;obtain⟨x,C⟩:=xq (wd ws a);obtain⟨y,G⟩:=xq (wd ws (a+1));rw[C] at V g;rw[G] at R r;clear hr m q o J Q s O hK hT hM C G;by_cases H:(ws.length:Int)<(a:Int)+S
 .have l:stands ws a=false:=by rw[j.out,kqc];omega
  have B:=hid (N.out l);have L:=hid l;clear l;go_enter func263,ntmps263;go_wp2_with fail;refine (g.out _).mono ?_;rintro e P ⟨rfl,d⟩;rw[kqn] at d;have k:=Bx.of_new d;have i:=ao d;have z:=hid k;obtain⟨c0,Z,c2,c3,c4,c5,f,cz⟩:=k.c6;have F:=f 0;have D:=f 1;have t:=f 2;have E:=f 3;have u:=f 4;have I:=f 5;clear k f d;go_wp2_with fail;refine kqr (v:=.tuple #[.agg #[.int .i64 0,.int .i64 0,.int .i64 0,.int .i64 0,.bool false,.int .u64 0],.bool false]) (aS results263 _ ((lC z.out _ _ _ _ _ _).alloc _) rfl rfl) rfl ⟨by rw[B.out,L.out];rfl,(ft i (kqb _) _ _ _ _ _ _).alloc (by simp;have:=i.size;omega) _⟩
 have l:stands ws a=true:=by rw[j.out,kql];omega
 have B:=hid (U.out l);have L:=hid l;have hle:(a:Int)+S<=(ws.length:Int):=by omega
 clear l H;go_enter func263,ntmps263;go_wp2_with fail;refine (g.out _).mono ?_;rintro e P ⟨rfl,d⟩;rw[kqn] at d;have k:=Bx.of_new d;have i:=ao d;have z:=hid k;obtain⟨c0,Z,c2,c3,c4,c5,f,cz⟩:=k.c6;have F:=f 0;have D:=f 1;have t:=f 2;have E:=f 3;have u:=f 4;have I:=f 5;clear k f d;have hbw:b<P.heap.size:=by have:=i.size;omega
 have h1':=(i.cell (p:=⟨b,Y+(a+1),none⟩) hb).trans R;have hwr:IntKind.i64.wrap ((a:Int)+1)=(a:Int)+1:=kqo _ (by omega);go_wp2_with fail;refine kqr (v:=.tuple #[.agg #[.int .i64 (a:Int),.int .i64 (S:Int),.int .i64 (K:Int),.int .i64 (T:Int),.bool M,.int .u64 (y:Int)],.bool true]) (aS results263 _ ((lC z.out _ _ _ _ _ _).alloc _) rfl rfl) rfl ⟨by rw[B.out,L.out,r.out],(ft i (kqb _) _ _ _ _ _ _).alloc (by simp;have:=i.size;omega) _⟩
def nw (ws:List Nat) (a:Nat):List Bk:=(blocks ws a).getD []
def rW (ws:List Nat) (a:Nat) (e:Ending) (w':World):Prop:=∃A c,e=.returned (.tuple #[.slice A (nw ws a).length c,.bool (blocks ws a).isSome])/\RdB w' w'.heap.size A (nw ws a)/\(nw ws a).length<=c
def rtF (ws:List Nat) (i j:Nat):Value:=.bool (decide (i<=j/\j%2=0)&&(blocks ws j).isSome)
theorem Bt(h:blocks ws a=none):rW ws a (.returned (.tuple #[.slice none 0 0,.bool false])) w':=by
 have:nw ws a=[]:=by simp[nw,h]
 exact⟨none,0,by rw[this,h];rfl,by rw[this];exact Rd.nil_,by rw[this];simp⟩
theorem yv{H:Nat}{v:Value}{l:List Bk}(h0:blocks ws a=some l)(h:w'.ownsRow H 55 6 v l.length (l.flatMap Bk.cells)):rW ws a (.returned (.tuple #[v,.bool true])) w':=by
 have e:nw ws a=l:=by simp[nw,h0]
 have f:∃A c,v=.slice A l.length c/\l.length<=c:=by
  rcases h.2 with⟨rfl,d⟩|⟨g,cap,cur,rfl,_,_,b,_⟩
  .exact ⟨none,0,by rw[d],by omega⟩
  exact⟨_,_,rfl,b⟩
 obtain⟨A,c,rfl,b⟩:=f;exact⟨A,c,by rw[e,h0];rfl,by rw[e];exact Rd.of_own h,by rw[e];exact b⟩
theorem yB(ws:List Nat)(m:Nat)(hm:m=ws.length+1)(he:ws.length%2=0)(h:w.rowIs g 4 m (λ_=>.bool false)):(w.setCell ⟨g,ws.length,none⟩ (.bool true)).rowIs g 4 m (rtF ws ws.length):=
 (h.set ws.length (.bool true)).congr λi hi=>by
  unfold rtF
  by_cases e:i=ws.length
  .subst e
   rw[aC (kqb _)];simp[he]
  .rw[if_neg e]
   have:decide (ws.length<=i/\i%2=0)=false:=by rw[kqc];omega
   rw[this];rfl
theorem tX(ws:List Nat)(m i:Nat)(he:i%2=0)(h:w.rowIs g 4 m (rtF ws (i+2))):(w.setCell ⟨g,i,none⟩ (.bool (blocks ws i).isSome)).rowIs g 4 m (rtF ws i):=
 (h.set i _).congr λj _=>by
  unfold rtF
  by_cases e:j=i
  .subst e;simp[he]
  .rw[if_neg e]
   congr 2
   rw[decide_eq_decide]
   omega
theorem zk:(prog.info? 4).map (λi=>(i.zero,i.size,i.bytes))=some (some (.bool false),1,1):=by kernel_rfl
theorem lS(A:Option Addr)(ws:List Nat)(c n a:Nat)(w:World)(hn:ws.length=n)(hm:n<=100000)(he:n%2=0)(ha:a<=n)(ha2:a%2=0)(hr:RdW w w.heap.size A ws)(ho:∀x∈ws,x<18446744073709551616):
 Calls prog 213 #[.slice A n c,.int .i64 (a:Int)] w λe w'=>rW ws a e w'/\Below w.heap.size w w':=by
 subst hn;have HR:=hid hr;have HO:=hid ho;obtain⟨m,Fp⟩:∃m,m=ws.length+1:=⟨_,rfl⟩;have Gc:(Instr.makeSlice 114 (.int .i64 ((ws.length:Int)+1)) (.int .i64 ((ws.length:Int)+1))).run prog w=.ok (.slice (some ⟨w.heap.size,0,none⟩) m m) (w.alloc (.cells (madeCells #[.bool false] m) 4)):=by have:=run_make_row' (P:=prog) 114 4 (.bool false) 1 underlying114 zk rfl .i64 .i64 m (by omega) (by omega) w;rw[show ((m:Nat):Int)=(ws.length:Int)+1 by omega] at this;exact this
 have r0:=World.rowIs_made w (.bool false) m 4;have Y:Below w.heap.size w (w.alloc (.cells (madeCells #[.bool false] m) 4)):=(kqk _ _).alloc (kqb _) _;have C:(w.alloc (.cells (madeCells #[.bool false] m) 4)).heap.size=w.heap.size+1:=by simp
 obtain⟨W0,Fw⟩:=xq (w.alloc (.cells (madeCells #[.bool false] m) 4));rw[Fw] at Gc r0 Y C;have HMM:=hid Fp;have c0:=r0.cell (i:=ws.length) (by omega);have f0:=r0.frozen ws.length;have R1:=hid (yB ws m Fp he r0);have hlm:(ws.length:Int)<(m:Int):=by omega
 have HE:=hid he;have Fu:=hid ha2;have HZ0:=hid C;have Gj:=hid Y;clear hr ho Fp Fw r0 he ha2 C Y;go_enter func213,ntmps213;go_wp2_with fail;go_loopw [7] (λp wr=>∃k:Nat,k<=ws.length/\a<=k/\k%2=0/\p=.int .i64 ((k:Int)-2)/\wr.rowIs w.heap.size 4 m (rtF ws k)/\Below w.heap.size w wr) (λp _=>(intOf p+2).toNat)
 case atStart=>exact⟨ws.length,kqb _,ha,HE.out,rfl,R1.out,Gj.out.setCell (kqb _) _⟩
 obtain⟨k,q1,q2,q3,rfl,g,F⟩:=hrel;have U:=F.size;by_cases I:a+2<=k
 .obtain ⟨i,rfl⟩:∃i,k=i+2:=⟨k-2,by omega⟩;rw[show (((i+2:Nat):Int)-2)=(i:Int) by omega];have W:i%2=0:=by omega
  have O:=hid W;have g1:(a:Int)<=(i:Int):=by omega
  have g2:(0:Int)<=(i:Int):=by omega
  have D:=hid (at_c A ws c ws.length i wr rfl (by omega) (by omega) (HR.out.up F U) HO.out);cases b:stands ws i
  .have HN:=hid (show (blocks ws i).isSome=false by rw[da (by omega) b];rfl);rw[(y6 b).1,b] at D;unfold lG Bk.val at D;dsimp only at D;have s:=hid g;clear b q3 W g;go_wp2_with fail;refine D.out.mono ?_;rintro e J ⟨rfl,d⟩;have f:=(mG s.out d s.out.lt).alloc (.cells #[.int .i64 0,.int .i64 0,.int .i64 0,.int .i64 0,.bool false,.int .u64 0] 55);have t:=((F.trans (d.mono U)).alloc (kzv U d.size) (.cells #[.int .i64 0,.int .i64 0,.int .i64 0,.int .i64 0,.bool false,.int .u64 0] 55));have o:i<m:=by omega
   have y:=f.cell o;have e2:=f.frozen i;unfold rtF at y;obtain⟨q,hq⟩:=xq ((decide (i+2<=i/\i%2=0)&&(blocks ws i).isSome));rw[hq] at y;have B:=hid (tX ws m i O.out f);rw[HN.out] at B;have L:=hid t;clear f t hq d;go_wp2;go_roundw
   case rel=>exact⟨i,by omega,by omega,O.out,by go_num,B.out,L.out.setCell (kqb _) _⟩
   case measure=>simp[intOf];omega
  have G:=ax b;have HN:=hid (show (blocks ws i).isSome=(blocks ws (i+szAt ws i)).isSome by rw[aO (by omega) b,Option.isSome_map]);have Fs:(bkAt ws i).val=.agg #[.int .i64 (i:Int),.int .i64 ((szAt ws i:Nat):Int),.int .i64 ((wd ws i%256:Nat):Int),.int .i64 ((wd ws i/512%128:Nat):Int),.bool (wd ws i/256%2==1),.int .u64 ((wd ws (i+1):Nat):Int)]:=rfl;rw[(wv b).1,b,Fs] at D;have Fz:=hid (show (i+szAt ws i)%2=0 by omega);obtain⟨S,hS⟩:=xq (szAt ws i);obtain⟨K,hK⟩:∃K,((wd ws i%256:Nat):Int)=K:=⟨_,rfl⟩;obtain⟨T,hT⟩:∃T,((wd ws i/512%128:Nat):Int)=T:=⟨_,rfl⟩;obtain⟨M,hM⟩:=xq ((wd ws i/256%2==1));obtain⟨X,hX⟩:∃X,((wd ws (i+1):Nat):Int)=X:=⟨_,rfl⟩;rw[hS] at HN G Fz;rw[hS,hK,hT,hM,hX] at D;obtain⟨z1,z2,z3⟩:=G;have s:=hid g;clear b W g Fs hS hK hT hM hX z2;go_wp2_with fail;refine D.out.mono ?_;rintro e J ⟨rfl,d⟩;have f:=(mG s.out d s.out.lt).alloc (.cells #[.int .i64 (i:Int),.int .i64 (S:Int),.int .i64 K,.int .i64 T,.bool M,.int .u64 X] 55);have t:=((F.trans (d.mono U)).alloc (kzv U d.size) (.cells #[.int .i64 (i:Int),.int .i64 (S:Int),.int .i64 K,.int .i64 T,.bool M,.int .u64 X] 55));have o:i<m:=by omega
  have Ga:i+S<m:=by omega
  have htn:((i:Int)+(S:Int)).toNat=i+S:=by omega
  have hub:(i:Int)+(S:Int)<(m:Int):=by omega
  have hlb:(0:Int)<=(i:Int)+(S:Int):=by omega
  have Fv:=Bx.new J 55 #[.int .i64 (i:Int),.int .i64 (S:Int),.int .i64 K,.int .i64 T,.bool M,.int .u64 X];have e0:(J.alloc (.cells #[.int .i64 (i:Int),.int .i64 (S:Int),.int .i64 K,.int .i64 T,.bool M,.int .u64 X] 55)).cell? ⟨J.heap.size,1,none⟩=some (.int .i64 (S:Int)):=Fv.cell 1;have y:=f.cell o;have e2:=f.frozen i;have e3:=f.cell Ga;unfold rtF at y e3;rw[show decide (i+2<=i+S/\(i+S)%2=0)=true by rw[kql];exact⟨by omega,Fz.out⟩,kzz,<-HN.out] at e3;obtain⟨q,hq⟩:=xq ((decide (i+2<=i/\i%2=0)&&(blocks ws i).isSome));rw[hq] at y;have B:=hid (tX ws m i O.out f);obtain⟨r,hr⟩:=xq ((blocks ws i).isSome);rw[hr] at B e3;have L:=hid t;clear f t hq d hr Fv;obtain⟨w2,Gb⟩:∃w2,(J.alloc (.cells #[.int .i64 (i:Int),.int .i64 (S:Int),.int .i64 K,.int .i64 T,.bool M,.int .u64 X] 55))=w2:=⟨_,rfl⟩;rw[Gb] at e0 y e2 e3 B L;go_wp2;go_roundw
  case rel=>exact⟨i,by omega,by omega,O.out,by go_num,B.out,L.out.setCell (kqb _) _⟩
  case measure=>simp[intOf];omega
 obtain rfl:k=a:=by have:=Fu.out;omega
 have hlt2:(k:Int)-2<(k:Int):=by omega
 have o:k<m:=by omega
 have y:=g.cell o;have ik:(k:Int)<(m:Int):=by omega
 have ik0:(0:Int)<=(k:Int):=by omega
 unfold rtF at y;rw[show decide (k<=k/\k%2=0)=true by rw[kql];exact⟨kqb _,q3⟩,kzz] at y;have d1:decide ((k:Int)<0)=false:=by rw[kqc];omega
 have d2:decide ((ws.length:Int)<(k:Int))=false:=by rw[kqc];omega
 have d2n:decide (ws.length<k)=false:=by rw[kqc];omega
 clear I q3 g;cases E:blocks ws k with
 | none =>rw[E] at y;have HN:=hid E;rw[show (none:Option (List Bk)).isSome=false from rfl] at y;clear E;go_wp2;go_ret2;exact⟨Bt HN.out,F⟩
 | some l =>
  rw[E] at y;have Gf:=hid E;rw[show (some l).isSome=true from rfl] at y;clear E;have Ft:=hid F;clear F;obtain⟨i2,hi,C,N,Fq⟩:=kze kp;have HJ:=hid hi;have Gd:=hid C;have Gk:=hid N;have Ge:=hid Fq;clear hi C N Fq;go_wp2_with fail;clear y;go_loopw [1,10] (λp v wr=>∃(i:Nat) (j:List Bk),p=.int .i64 i/\i<=ws.length/\i%2=0/\blocks ws k=(blocks ws i).map (j ++ ·)/\j.length<=i/\wr.ownsRow w.heap.size 55 6 v j.length (j.flatMap Bk.cells)/\Below w.heap.size w wr) (λp _ _=>ws.length-(intOf p).toNat)
  case atStart=>exact⟨k,[],rfl,ha,Fu.out,by simp,by simp,kq1 _ _ _ _,Ft.out⟩
  obtain⟨i,j,rfl,q2,q3,q4,q5,R,F⟩:=hrel;have U:=F.size;have Gh:=hid q3;have Fo:=hid q4;clear q4;by_cases I:i<ws.length
  .have Fx:i+1<ws.length:=by have:=HE.out;omega
   clear q3;have b:stands ws i=true:=by
    cases h:stands ws i with
    | true=>rfl
    | false=>have:=Fo.out;rw[da I h,Gf.out] at this;cases this
   have G:=ax b;have D:=hid (at_c A ws c ws.length i wr rfl (by omega) Fx (HR.out.up F U) HO.out);rw[(wv b).1,b] at D;have Eq:=hid (show blocks ws k=(blocks ws (i+szAt ws i)).map ((j++[bkAt ws i]) ++ ·) by
    rw[Fo.out,aO I b];cases blocks ws (i+szAt ws i)<;>simp)
   have Fy:=hid (b9 Bk.cells j (bkAt ws i));have Q:=aP ws i;obtain⟨x,hx⟩:=xq (bkAt ws i);obtain⟨z,Fr⟩:=xq (szAt ws i);rw[hx] at D Eq Fy Q;rw[Fr] at Eq G Q;have HX:=hid hx;obtain⟨xa,xs,xk,xt,xm,xn⟩:=x;dsimp only at Q;subst Q;unfold Bk.val at D;dsimp only at D;obtain⟨z1,z2,z3⟩:=G;have Gg:=hid z2;clear b hx Fr z2;go_wp2_with fail;refine D.out.mono ?_;rintro e J ⟨rfl,d⟩;have t:=F.trans (d.mono U);have u:=ae R d (kqb _);have N:=t.size;go_wp2_with (at_builtin;refine kq9 _ rfl _ _ 48 rfl w.heap.size 55 i2 _ 6 48 underlying48 HJ.out Gd.out Gk.out Ge.out rfl (by decide) _ _ _ rfl ((u.alloc _).alloc _) ⟨_,0,none⟩ 1 1 [.int .i64 xa,.int .i64 (z:Int),.int .i64 xk,.int .i64 xt,.bool xm,.int .u64 (xn:Int)] rfl rfl (kX _ _ _ (kqn _ _)) (by simp[Value.oneCell']) (by unfold maxLen;omega) (by omega) (by simp;omega) ?_;intro v1 w2 Z V _;have H:Bx w2 J.heap.size 55 #[.int .i64 xa,.int .i64 (z:Int),.int .i64 xk,.int .i64 xt,.bool xm,.int .u64 (xn:Int)]:=((Bx.new J 55 _).alloc _).grown V (pG u);have Gi:=am (t.alloc N (.cells #[.int .i64 xa,.int .i64 (z:Int),.int .i64 xk,.int .i64 xt,.bool xm,.int .u64 (xn:Int)] 55)) (by simp;omega) (u.alloc _) V;have hc1:w2.cell? ⟨J.heap.size,1,none⟩=some (.int .i64 (z:Int)):=H.cell 1;have hf1:=H.frozen 1;have hl1:=H.lt;clear V H);go_roundw
   case rel=>exact⟨i+z,j++[⟨xa,(z:Int),xk,xt,xm,xn⟩],by rw[kx1],by omega,by have:=Gh.out;have:=Gg.out;omega,Eq.out,by simp;omega,by rw[Fy.out,kqz];exact Z,Gi⟩
   case measure=>simp[intOf];omega
  have hi:i=ws.length:=by omega
  have HD:=hid (show blocks ws k=some j by rw[Fo.out,aC (by omega)];simp);clear hi q3;go_wp2;go_ret2;exact⟨yv HD.out R,F⟩
end Go.Proofs.YtpcajamacpbjcaaGreat
