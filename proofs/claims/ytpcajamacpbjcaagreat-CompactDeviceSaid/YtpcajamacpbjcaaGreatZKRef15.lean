/- Texts laid together: Img2 Ref14 Ref14S Ref15 Ref15F. -/
import Derived.Test.YtpcajamacpbjcaaGreatZKHead
import Derived.Test.YtpcajamacpbjcaaGreatZKRefs
set_option maxHeartbeats 16000000
set_option maxRecDepth 100000
set_option linter.all false
namespace Go.Proofs.YtpcajamacpbjcaaGreat
open Lib (hid)
open Go.RowKit
variable {ws:List Nat}{a g:Nat}{w w':World}
open Go.Proofs.Tryz
theorem so(n:Nat)(w:World)(hn:n<=9223372036854775807):Calls prog 148 #[.int .i64 (n:Int)] w λe w'=>e=.returned (.bool (aj (n:Int)))/\w=w':=by
 have H:Hid (∀b:Bool,(b=true↔256<=n/\n<=2048/\n%8=0)->b=aj (n:Int)):=hid λb h=>by rw[kzg,aa,h];omega
 go_enter func148,ntmps148;go_wp2_with fail
 all_goals
  go_ret;exact⟨jj (H.out _ (by simp;omega)),rfl⟩
theorem ms(A:Option Addr)(n c:Nat)(w:World)(hn:n<=9223372036854775807):Calls prog 92 #[.slice A n c] w λe w'=>e=.returned (.int .i64 (ls n))/\w=w':=by
 cases a:aj (n:Int)
 all_goals
  first
   | have b:=hid (aZ a)
   | have b:=hid (bI a)
  have d:=hid a;clear a;go_enter func92,ntmps92;go_wp2_with fail;refine (so n w hn).mono ?_;rintro e w1 ⟨rfl,rfl⟩;rw[d.out];go_wp2;go_ret;exact⟨by rw[b.out];rfl,rfl⟩
theorem rW(b:Bk)(w:World):Calls prog 291 #[b.val] w λe w'=>e=.returned (.int .i64 (jc b))/\Below w.heap.size w w':=by
 obtain⟨xa,xs,xk,xt,a,xn⟩:=b;unfold Bk.val;cases a
 all_goals
  go_enter func291,ntmps291;go_wp2_with fail
  all_goals
   go_ret;refine⟨?_,(kqk _ _).alloc (kqa _) _⟩;(try simp only[ne_eq,kqw,kqi,kx4,kk2,kqc,kzc] at *)
   first
    | (exfalso;omega)
    | exact mK (CS (by simp only[reduceCtorEq,and_false,false_and,or_false,true_and];omega))
    | exact mK (AA (by simp only[reduceCtorEq,and_false,false_and,or_false,true_and];omega))
theorem Ib(xa:Int)(S K T:Nat)(m:Bool)(xn:Nat)(w:World)(h1:K<256)(h2:T<128)(h3:S<65536):
 Calls prog 292 #[.agg #[.int .i64 xa,.int .i64 (S:Int),.int .i64 (K:Int),.int .i64 (T:Int),.bool m,.int .u64 (xn:Int)]] w λe w'=>e=.returned (.int .u64 ((cV ⟨xa,(S:Int),(K:Int),(T:Int),m,xn⟩:Nat):Int))/\Below w.heap.size w w':=by have c:=hid (λW=>nJ K T S m W h1 h2 h3);have f:Hid (cV ⟨xa,(S:Int),(K:Int),(T:Int),m,xn⟩=K+ov m*256+T*512+S*65536+ig (K+ov m*256+T*512+S*65536)%4294967296*4294967296):=hid rfl;obtain⟨V,d⟩:=xq (K+ov m*256+T*512+S*65536+ig (K+ov m*256+T*512+S*65536)%4294967296*4294967296);rw[d] at c f;rw[f.out];clear d;go_enter func292,ntmps292;go_wp2_with fail;refine (c.out _).mono ?_;rintro e w1 ⟨rfl,a⟩;rw[kqm] at a;have b:=aw a;clear a;go_wp2;go_ret;exact⟨rfl,b⟩
theorem wU(x:Nat)(w:World)(hx:x<18446744073709551616):Calls prog 274 #[.int .u64 (x:Int)] w λe w'=>e=.returned (.tuple #[(Dp x).val,.bool (aD x)])/\Below w.heap.size w w':=by
 have c:=hid (λW=>rW (aq x) W);have G:Hid (jc (aq x)=0->cV (aq x)=x->Dp x=aq x/\aD x=true):=hid λh1 h2=>by
  have hb:je (aq x)=true:=by
   cases O:je (aq x) with
   | true=>rfl
   | false=>rw[mN O] at h1;cases h1
  have:aD x=true:=by simp[aD,hb,h2]
  exact⟨(l7 this).1,this⟩
 have z:Hid (jc (aq x)≠0\/cV (aq x)≠x->Dp x=mA/\aD x=false):=hid λh=>by
  have:aD x=false:=by
   cases O:je (aq x) with
   | false=>simp[aD,O]
   | true =>
    rcases h with h|h
    .exact absurd (iV O) h
    simp[aD,O,h]
  exact⟨(ml this).1,this⟩
 have hx0:(0:Int)<=(x:Int):=by omega
 have j:(aq x).val=.agg #[.int .i64 0,.int .i64 ((x/65536%65536:Nat):Int),.int .i64 ((x%256:Nat):Int),.int .i64 ((x/512%128:Nat):Int),.bool (x/256%2==1),.int .u64 0]:=rfl;have Z:x%256<256:=kzz _ (by omega);have m2:x/256%2<2:=kzz _ (by omega);have m3:x/512%128<128:=kzz _ (by omega);have m4:x/65536%65536<65536:=kzz _ (by omega);have B:=hid (λW=>jq x 0 8 W hx (by omega));have t:=hid (λW=>jq x 8 1 W hx (by omega));have A:=hid (λW=>jq x 9 7 W hx (by omega));have u:=hid (λW=>jq x 16 16 W hx (by omega));rw[show bG x 0 8=x%256 by simp[bG]] at B;rw[show bG x 8 1=x/256%2 from rfl] at t;rw[show bG x 9 7=x/512%128 from rfl] at A;rw[show bG x 16 16=x/65536%65536 from rfl] at u;have d:=hid (λW=>Ib 0 (x/65536%65536) (x%256) (x/512%128) (x/256%2==1) 0 W Z m3 m4);rw[show (⟨0,((x/65536%65536:Nat):Int),((x%256:Nat):Int),((x/512%128:Nat):Int),(x/256%2==1),0⟩:Bk)=aq x from rfl] at d;rw[j] at c;have a:=hid j;have i:((((x/256%2:Nat):Int))==1)=(x/256%2==1):=by rw[kzg,kqw,kqw];omega
 obtain⟨K,hK⟩:=xq (x%256);obtain⟨M,hM⟩:=xq (x/256%2);obtain⟨T,hT⟩:=xq (x/512%128);obtain⟨S,hS⟩:=xq (x/65536%65536);rw[hK] at Z B c d a;rw[hM] at m2 i t c d a;rw[hT] at m3 A c d a;rw[hS] at m4 u c d a;obtain⟨C,N⟩:=xq ((M==1));rw[N] at i c d a;obtain⟨V,q⟩:=xq (cV (aq x));obtain⟨R,k⟩:=xq (jc (aq x));rw[q,k] at G z;rw[k] at c;rw[q] at d;clear hx j hK hM hT hS N q k;go_enter func274,ntmps274;go_wp2_with fail;refine (B.out _).mono ?_;rintro e D ⟨rfl,rfl⟩;go_wp2_with fail;refine (t.out _).mono ?_;rintro e D ⟨rfl,rfl⟩;go_wp2_with fail;refine (A.out _).mono ?_;rintro e D ⟨rfl,rfl⟩;go_wp2_with fail;refine (u.out _).mono ?_;rintro e D ⟨rfl,rfl⟩;go_wp2_with fail;have m:=(Bx.new w 55 #[.int .i64 0,.int .i64 0,.int .i64 0,.int .i64 0,.bool false,.int .u64 0]).alloc (.cells #[.int .i64 0,.int .i64 (S:Int),.int .i64 (K:Int),.int .i64 (T:Int),.bool C,.int .u64 0] 55);have l:=Bx.new (w.alloc (.cells #[.int .i64 0,.int .i64 0,.int .i64 0,.int .i64 0,.bool false,.int .u64 0] 55)) 55 #[.int .i64 0,.int .i64 (S:Int),.int .i64 (K:Int),.int .i64 (T:Int),.bool C,.int .u64 0]
 have o:Below w.heap.size w ((w.alloc (.cells #[.int .i64 0,.int .i64 0,.int .i64 0,.int .i64 0,.bool false,.int .u64 0] 55)).alloc (.cells #[.int .i64 0,.int .i64 (S:Int),.int .i64 (K:Int),.int .i64 (T:Int),.bool C,.int .u64 0] 55)):=((kqk _ _).alloc (kqa _) _).alloc (by simp) _;have H:((w.alloc (.cells #[.int .i64 0,.int .i64 0,.int .i64 0,.int .i64 0,.bool false,.int .u64 0] 55)).alloc (.cells #[.int .i64 0,.int .i64 (S:Int),.int .i64 (K:Int),.int .i64 (T:Int),.bool C,.int .u64 0] 55)).heap.size=w.heap.size+2:=by simp
 rw[kqm] at l;obtain⟨W0,J⟩:∃W0,(w.alloc (.cells #[.int .i64 0,.int .i64 0,.int .i64 0,.int .i64 0,.bool false,.int .u64 0] 55)).alloc (.cells #[.int .i64 0,.int .i64 (S:Int),.int .i64 (K:Int),.int .i64 (T:Int),.bool C,.int .u64 0] 55)=W0:=⟨_,rfl⟩;rw[J] at m l o H |-;clear J;refine (c.out W0).mono ?_;rintro e D ⟨rfl,g⟩;have y:=o.trans (g.mono o.size);replace m:=m.up g (by omega);replace l:=l.up g (by omega);have hz1:w.heap.size+2<=D.heap.size:=by have:=g.size;omega
 obtain⟨c0,c1,c2,c3,c4,c5,f,cz⟩:=m.c6;obtain⟨d0,d1,d2,d3,d4,d5,df,dz⟩:=l.c6;have Q0:=hid m;have Q1:=hid l;have F:=f 0;have I:=f 1;have Q:=f 2;have L:=f 3;have X:=f 4;have P:=f 5;clear m l g o H df f i Z m2 m3 m4;by_cases k:R=0
 .have Eq:(R != 0)=false:=by rw[kqr];exact k
  have Ka:=hid k;clear k F I Q L X P c0 c1 c2 c3 c4 c5;go_wp2_with fail;refine (d.out D).mono ?_;rintro e w2 ⟨rfl,n⟩;have E:=y.trans (n.mono y.size);have m:=Q0.out.up n (by omega);have l:=Q1.out.up n (by omega);clear d0 d1 d2 d3 d4 d5;obtain⟨c0,c1,c2,c3,c4,c5,f,cz⟩:=m.c6;obtain⟨d0,d1,d2,d3,d4,d5,df,dz⟩:=l.c6;have P0:=hid m;have F:=f 0;have I:=f 1;have Q:=f 2;have L:=f 3;have X:=f 4;have P:=f 5;clear m l n df f;by_cases q:V=x
  .obtain ⟨s,r⟩:=G.out Ka.out q;have Y:=hid s;have U:=hid r;have Kb:((V:Int) != (x:Int))=false:=by rw[kqr];omega
   clear q s r;go_wp2_with fail;refine kqo (v:=.tuple #[.agg #[.int .i64 0,.int .i64 (S:Int),.int .i64 (K:Int),.int .i64 (T:Int),.bool C,.int .u64 0],.bool true]) (aX results274 _ ((((((P0.out.set_ 0 _).set_ 1 _).set_ 2 _).set_ 3 _).set_ 4 _).set_ 5 _) rfl rfl) rfl ⟨by rw[Y.out,U.out,a.out],?_⟩;exact (kq7 (p:=⟨w.heap.size,5,none⟩) (kq7 (p:=⟨w.heap.size,4,none⟩) (kq7 (p:=⟨w.heap.size,3,none⟩) (kq7 (p:=⟨w.heap.size,2,none⟩) (kq7 (p:=⟨w.heap.size,1,none⟩) (kq7 (p:=⟨w.heap.size,0,none⟩) E (kqa _) _) (kqa _) _) (kqa _) _) (kqa _) _) (kqa _) _) (kqa _) _)
  obtain⟨s,r⟩:=z.out (.inr q);have Y:=hid s;have U:=hid r;have Kb:((V:Int) != (x:Int))=true:=by rw[kqv];omega
  clear q s r;go_wp2_with fail;refine kqo (v:=.tuple #[.agg #[.int .i64 0,.int .i64 0,.int .i64 0,.int .i64 0,.bool false,.int .u64 0],.bool false]) (aX results274 _ ((((((P0.out.set_ 0 _).set_ 1 _).set_ 2 _).set_ 3 _).set_ 4 _).set_ 5 _) rfl rfl) rfl ⟨by rw[Y.out,U.out];rfl,?_⟩;exact (kq7 (p:=⟨w.heap.size,5,none⟩) (kq7 (p:=⟨w.heap.size,4,none⟩) (kq7 (p:=⟨w.heap.size,3,none⟩) (kq7 (p:=⟨w.heap.size,2,none⟩) (kq7 (p:=⟨w.heap.size,1,none⟩) (kq7 (p:=⟨w.heap.size,0,none⟩) E (kqa _) _) (kqa _) _) (kqa _) _) (kqa _) _) (kqa _) _) (kqa _) _)
 obtain⟨s,r⟩:=z.out (.inl k);have Y:=hid s;have U:=hid r;have Eq:(R != 0)=true:=by rw[kqv];exact k
 clear k s r;go_wp2_with fail;refine kqo (v:=.tuple #[.agg #[.int .i64 0,.int .i64 0,.int .i64 0,.int .i64 0,.bool false,.int .u64 0],.bool false]) (aX results274 _ ((((((Q0.out.set_ 0 _).set_ 1 _).set_ 2 _).set_ 3 _).set_ 4 _).set_ 5 _) rfl rfl) rfl ⟨by rw[Y.out,U.out];rfl,?_⟩;exact (kq7 (p:=⟨w.heap.size,5,none⟩) (kq7 (p:=⟨w.heap.size,4,none⟩) (kq7 (p:=⟨w.heap.size,3,none⟩) (kq7 (p:=⟨w.heap.size,2,none⟩) (kq7 (p:=⟨w.heap.size,1,none⟩) (kq7 (p:=⟨w.heap.size,0,none⟩) y (kqa _) _) (kqa _) _) (kqa _) _) (kqa _) _) (kqa _) _) (kqa _) _)
theorem at_c(A:Option Addr)(ws:List Nat)(c n a:Nat)(w:World)(hn:ws.length=n)(hm:n<=1000000)(ha:a+1<n)(hr:RdW w w.heap.size A ws)(ho:∀x∈ws,x<18446744073709551616):
 Calls prog 263 #[.slice A n c,.int .i64 (a:Int)] w λe w'=>e=.returned (.tuple #[(stB ws a).val,.bool (stands ws a)])/\Below w.heap.size w w':=by
 subst hn;have HR:=hid hr;have s:=fM ho a;have g:=hid (λW=>wU (wd ws a) W s);obtain⟨b,V,rfl,hb,Q⟩:=RdW.at_ hr (show a<ws.length by omega);obtain⟨b',off',e',-,P⟩:=RdW.at_ hr ha;cases e';rw[<-cA] at Q P;have ik0:(0:Int)<=(a:Int):=by omega
 have ik1:(a:Int)<(ws.length:Int):=by omega
 have d1:decide ((a:Int)<0)=false:=by rw[kqc];omega
 have d2:decide ((ws.length:Int)<=(a:Int))=false:=by rw[kqc];omega
 have ik2:(a:Int)+1<(ws.length:Int):=by omega
 have ik3:(0:Int)<=(a:Int)+1:=by omega
 have htn:((a:Int)+1).toNat=a+1:=by omega
 have l:(aq (wd ws a)).val=.agg #[.int .i64 0,.int .i64 ((szAt ws a:Nat):Int),.int .i64 ((wd ws a%256:Nat):Int),.int .i64 ((wd ws a/512%128:Nat):Int),.bool (wd ws a/256%2==1),.int .u64 0]:=rfl;have q:(bkAt ws a).val=.agg #[.int .i64 (a:Int),.int .i64 ((szAt ws a:Nat):Int),.int .i64 ((wd ws a%256:Nat):Int),.int .i64 ((wd ws a/512%128:Nat):Int),.bool (wd ws a/256%2==1),.int .u64 ((wd ws (a+1):Nat):Int)]:=rfl;have X:szAt ws a<65536:=kzz _ (by omega);have j:Hid (stands ws a=(aD (wd ws a)&&decide ((szAt ws a:Int)<=(ws.length:Int)-a))):=hid rfl;have E:Hid (stands ws a=false->stB ws a=mA):=hid λh=>(zE h).1;have U:Hid (stands ws a=true->stB ws a=bkAt ws a):=hid λh=>(wL h).1;cases o:aD (wd ws a)
 .have m:stands ws a=false:=by rw[j.out,o];rfl
  have L:=hid (E.out m);have F:=hid m;obtain⟨G,O⟩:=ml o;rw[G,o] at g;clear hr l q o m G O s;unfold Bk.val mA at g;dsimp only at g;obtain⟨x,s⟩:=xq (wd ws a);rw[s] at Q g;clear s;go_enter func263,ntmps263;go_wp2_with fail;refine (g.out _).mono ?_;rintro e Y ⟨rfl,d⟩;rw[kqm] at d;have k:=Bx.of_new d;have i:=aw d;have u:=hid k;obtain⟨c0,c1,c2,c3,Z,c5,f,cz⟩:=k.c6;have B:=f 0;have I:=f 1;have C:=f 2;have N:=f 3;have J:=f 4;have z:=f 5;clear k f d;go_wp2_with fail;refine kqo (v:=.tuple #[.agg #[.int .i64 0,.int .i64 0,.int .i64 0,.int .i64 0,.bool false,.int .u64 0],.bool false]) (aX results263 _ ((mx u.out _ _ _ _ _ _).alloc _) rfl rfl) rfl ⟨by rw[L.out,F.out];rfl,(fI i (kqa _) _ _ _ _ _ _).alloc (by simp;have:=i.size;omega) _⟩
 obtain⟨G,O⟩:=l7 o;rw[G,l,o] at g;have r:=hid q;obtain⟨S,R⟩:=xq (szAt ws a);obtain⟨K,hK⟩:=xq (wd ws a%256);obtain⟨T,hT⟩:=xq (wd ws a/512%128);obtain⟨M,hM⟩:=xq ((wd ws a/256%2==1));rw[R,hK,hT,hM] at g r;rw[R] at X j;rw[o,kzq] at j;obtain⟨x,t⟩:=xq (wd ws a);obtain⟨y,H⟩:=xq (wd ws (a+1));rw[t] at Q g;rw[H] at P r;clear hr l q o G O s R hK hT hM t H;by_cases D:(ws.length:Int)<(a:Int)+S
 .have m:stands ws a=false:=by rw[j.out,kqc];omega
  have L:=hid (E.out m);have F:=hid m;clear m;go_enter func263,ntmps263;go_wp2_with fail;refine (g.out _).mono ?_;rintro e Y ⟨rfl,d⟩;rw[kqm] at d;have k:=Bx.of_new d;have i:=aw d;have u:=hid k;obtain⟨c0,c1,c2,c3,Z,c5,f,cz⟩:=k.c6;have B:=f 0;have I:=f 1;have C:=f 2;have N:=f 3;have J:=f 4;have z:=f 5;clear k f d;go_wp2_with fail;refine kqo (v:=.tuple #[.agg #[.int .i64 0,.int .i64 0,.int .i64 0,.int .i64 0,.bool false,.int .u64 0],.bool false]) (aX results263 _ ((mx u.out _ _ _ _ _ _).alloc _) rfl rfl) rfl ⟨by rw[L.out,F.out];rfl,(fI i (kqa _) _ _ _ _ _ _).alloc (by simp;have:=i.size;omega) _⟩
 have m:stands ws a=true:=by rw[j.out,kqn];omega
 have L:=hid (U.out m);have F:=hid m;have hle:(a:Int)+S<=(ws.length:Int):=by omega
 clear m D;go_enter func263,ntmps263;go_wp2_with fail;refine (g.out _).mono ?_;rintro e Y ⟨rfl,d⟩;rw[kqm] at d;have k:=Bx.of_new d;have i:=aw d;have u:=hid k;obtain⟨c0,c1,c2,c3,Z,c5,f,cz⟩:=k.c6;have B:=f 0;have I:=f 1;have C:=f 2;have N:=f 3;have J:=f 4;have z:=f 5;clear k f d;have hbw:b<Y.heap.size:=by have:=i.size;omega
 have h1':=(i.cell (p:=⟨b,V+(a+1),none⟩) hb).trans P;have hwr:IntKind.i64.wrap ((a:Int)+1)=(a:Int)+1:=kqs _ (by omega);go_wp2_with fail;refine kqo (v:=.tuple #[.agg #[.int .i64 (a:Int),.int .i64 (S:Int),.int .i64 (K:Int),.int .i64 (T:Int),.bool M,.int .u64 (y:Int)],.bool true]) (aX results263 _ ((mx u.out _ _ _ _ _ _).alloc _) rfl rfl) rfl ⟨by rw[L.out,F.out,r.out],(fI i (kqa _) _ _ _ _ _ _).alloc (by simp;have:=i.size;omega) _⟩
def sJ (ws:List Nat) (a:Nat):List Bk:=(blocks ws a).getD []
def FY (ws:List Nat) (a:Nat) (e:Ending) (w':World):Prop:=∃A c,e=.returned (.tuple #[.slice A (sJ ws a).length c,.bool (blocks ws a).isSome])/\RdB w' w'.heap.size A (sJ ws a)/\(sJ ws a).length<=c
def rtF (ws:List Nat) (i j:Nat):Value:=.bool (decide (i<=j/\j%2=0)&&(blocks ws j).isSome)
theorem DS(h:blocks ws a=none):FY ws a (.returned (.tuple #[.slice none 0 0,.bool false])) w':=by
 have:sJ ws a=[]:=by simp[sJ,h]
 exact⟨none,0,by rw[this,h];rfl,by rw[this];exact Rd.nil_,by rw[this];simp⟩
theorem zI{H:Nat}{v:Value}{l:List Bk}(h0:blocks ws a=some l)(h:w'.ownsRow H 55 6 v l.length (l.flatMap Bk.cells)):FY ws a (.returned (.tuple #[v,.bool true])) w':=by
 have e:sJ ws a=l:=by simp[sJ,h0]
 have f:∃A c,v=.slice A l.length c/\l.length<=c:=by
  rcases h.2 with⟨rfl,d⟩|⟨g,cap,cur,rfl,_,_,b,_⟩
  .exact ⟨none,0,by rw[d],by omega⟩
  exact⟨_,_,rfl,b⟩
 obtain⟨A,c,rfl,b⟩:=f;exact⟨A,c,by rw[e,h0];rfl,by rw[e];exact Rd.of_own h,by rw[e];exact b⟩
theorem Cm(ws:List Nat)(m:Nat)(hm:m=ws.length+1)(he:ws.length%2=0)(h:w.rowIs g 4 m (λ_=>.bool false)):(w.setCell ⟨g,ws.length,none⟩ (.bool true)).rowIs g 4 m (rtF ws ws.length):=
 (h.set ws.length (.bool true)).congr λi hi=>by
  unfold rtF
  by_cases e:i=ws.length
  .subst e
   rw[aH (kqa _)];simp[he]
  .rw[if_neg e]
   have:decide (ws.length<=i/\i%2=0)=false:=by rw[kqc];omega
   rw[this];rfl
theorem uO(ws:List Nat)(m i:Nat)(he:i%2=0)(h:w.rowIs g 4 m (rtF ws (i+2))):(w.setCell ⟨g,i,none⟩ (.bool (blocks ws i).isSome)).rowIs g 4 m (rtF ws i):=
 (h.set i _).congr λj _=>by
  unfold rtF
  by_cases e:j=i
  .subst e;simp[he]
  .rw[if_neg e]
   congr 2
   rw[decide_eq_decide]
   omega
theorem AF:(prog.info? 4).map (λi=>(i.zero,i.size,i.bytes))=some (some (.bool false),1,1):=by kernel_rfl
theorem DL(A:Option Addr)(ws:List Nat)(c n a:Nat)(w:World)(hn:ws.length=n)(hm:n<=100000)(he:n%2=0)(ha:a<=n)(ha2:a%2=0)(hr:RdW w w.heap.size A ws)(ho:∀x∈ws,x<18446744073709551616):
 Calls prog 213 #[.slice A n c,.int .i64 (a:Int)] w λe w'=>FY ws a e w'/\Below w.heap.size w w':=by
 subst hn;have HR:=hid hr;have HO:=hid ho;obtain⟨m,V⟩:∃m,m=ws.length+1:=⟨_,rfl⟩;have Kt:(Instr.makeSlice 114 (.int .i64 ((ws.length:Int)+1)) (.int .i64 ((ws.length:Int)+1))).run prog w=.ok (.slice (some ⟨w.heap.size,0,none⟩) m m) (w.alloc (.cells (madeCells #[.bool false] m) 4)):=by have:=run_make_row' (P:=prog) 114 4 (.bool false) 1 underlying114 AF rfl .i64 .i64 m (by omega) (by omega) w;rw[show ((m:Nat):Int)=(ws.length:Int)+1 by omega] at this;exact this
 have r0:=World.rowIs_made w (.bool false) m 4;have Kc:Below w.heap.size w (w.alloc (.cells (madeCells #[.bool false] m) 4)):=(kqk _ _).alloc (kqa _) _;have D:(w.alloc (.cells (madeCells #[.bool false] m) 4)).heap.size=w.heap.size+1:=by simp
 obtain⟨W0,Kg⟩:=xq (w.alloc (.cells (madeCells #[.bool false] m) 4));rw[Kg] at Kt r0 Kc D;have HMM:=hid V;have c0:=r0.cell (i:=ws.length) (by omega);have f0:=r0.frozen ws.length;have R1:=hid (Cm ws m V he r0);have hlm:(ws.length:Int)<(m:Int):=by omega
 have HE:=hid he;have Km:=hid ha2;have HZ0:=hid D;have Kx:=hid Kc;clear hr ho V Kg r0 he ha2 D Kc;go_enter func213,ntmps213;go_wp2_with fail;go_loopw [7] (λp wr=>∃k:Nat,k<=ws.length/\a<=k/\k%2=0/\p=.int .i64 ((k:Int)-2)/\wr.rowIs w.heap.size 4 m (rtF ws k)/\Below w.heap.size w wr) (λp _=>(intOf p+2).toNat)
 case atStart=>exact⟨ws.length,kqa _,ha,HE.out,rfl,R1.out,Kx.out.setCell (kqa _) _⟩
 obtain⟨k,q1,q2,Z,rfl,g,F⟩:=hrel;have R:=F.size;by_cases I:a+2<=k
 .obtain ⟨i,rfl⟩:∃i,k=i+2:=⟨k-2,by omega⟩;rw[show (((i+2:Nat):Int)-2)=(i:Int) by omega];have Ka:i%2=0:=by omega
  have Q:=hid Ka;have g1:(a:Int)<=(i:Int):=by omega
  have g2:(0:Int)<=(i:Int):=by omega
  have E:=hid (at_c A ws c ws.length i wr rfl (by omega) (by omega) (HR.out.up F R) HO.out);cases b:stands ws i
  .have HN:=hid (show (blocks ws i).isSome=false by rw[di (by omega) b];rfl);rw[(zE b).1,b] at E;unfold mA Bk.val at E;dsimp only at E;have t:=hid g;clear b Z Ka g;go_wp2_with fail;refine E.out.mono ?_;rintro e O ⟨rfl,d⟩;have f:=(na t.out d t.out.lt).alloc (.cells #[.int .i64 0,.int .i64 0,.int .i64 0,.int .i64 0,.bool false,.int .u64 0] 55);have o:=((F.trans (d.mono R)).alloc (kz3 R d.size) (.cells #[.int .i64 0,.int .i64 0,.int .i64 0,.int .i64 0,.bool false,.int .u64 0] 55));have s:i<m:=by omega
   have y:=f.cell s;have e2:=f.frozen i;unfold rtF at y;obtain⟨q,hq⟩:=xq ((decide (i+2<=i/\i%2=0)&&(blocks ws i).isSome));rw[hq] at y;have B:=hid (uO ws m i Q.out f);rw[HN.out] at B;have H:=hid o;clear f o hq d;go_wp2;go_roundw
   case rel=>exact⟨i,by omega,by omega,Q.out,by go_num,B.out,H.out.setCell (kqa _) _⟩
   case measure=>simp[intOf];omega
  have G:=aF b;have HN:=hid (show (blocks ws i).isSome=(blocks ws (i+szAt ws i)).isSome by rw[aR (by omega) b,Option.isSome_map]);have Kd:(bkAt ws i).val=.agg #[.int .i64 (i:Int),.int .i64 ((szAt ws i:Nat):Int),.int .i64 ((wd ws i%256:Nat):Int),.int .i64 ((wd ws i/512%128:Nat):Int),.bool (wd ws i/256%2==1),.int .u64 ((wd ws (i+1):Nat):Int)]:=rfl;rw[(wL b).1,b,Kd] at E;have Kf:=hid (show (i+szAt ws i)%2=0 by omega);obtain⟨S,hS⟩:=xq (szAt ws i);obtain⟨K,hK⟩:∃K,((wd ws i%256:Nat):Int)=K:=⟨_,rfl⟩;obtain⟨T,hT⟩:∃T,((wd ws i/512%128:Nat):Int)=T:=⟨_,rfl⟩;obtain⟨M,hM⟩:=xq ((wd ws i/256%2==1));obtain⟨X,hX⟩:∃X,((wd ws (i+1):Nat):Int)=X:=⟨_,rfl⟩;rw[hS] at HN G Kf;rw[hS,hK,hT,hM,hX] at E;obtain⟨z1,z2,z3⟩:=G;have t:=hid g;clear b Ka g Kd hS hK hT hM hX z2;go_wp2_with fail;refine E.out.mono ?_;rintro e O ⟨rfl,d⟩;have f:=(na t.out d t.out.lt).alloc (.cells #[.int .i64 (i:Int),.int .i64 (S:Int),.int .i64 K,.int .i64 T,.bool M,.int .u64 X] 55);have o:=((F.trans (d.mono R)).alloc (kz3 R d.size) (.cells #[.int .i64 (i:Int),.int .i64 (S:Int),.int .i64 K,.int .i64 T,.bool M,.int .u64 X] 55));have s:i<m:=by omega
  have Ki:i+S<m:=by omega
  have htn:((i:Int)+(S:Int)).toNat=i+S:=by omega
  have hub:(i:Int)+(S:Int)<(m:Int):=by omega
  have hlb:(0:Int)<=(i:Int)+(S:Int):=by omega
  have Ke:=Bx.new O 55 #[.int .i64 (i:Int),.int .i64 (S:Int),.int .i64 K,.int .i64 T,.bool M,.int .u64 X];have e0:(O.alloc (.cells #[.int .i64 (i:Int),.int .i64 (S:Int),.int .i64 K,.int .i64 T,.bool M,.int .u64 X] 55)).cell? ⟨O.heap.size,1,none⟩=some (.int .i64 (S:Int)):=Ke.cell 1;have y:=f.cell s;have e2:=f.frozen i;have e3:=f.cell Ki;unfold rtF at y e3;rw[show decide (i+2<=i+S/\(i+S)%2=0)=true by rw[kqn];exact⟨by omega,Kf.out⟩,kzq,<-HN.out] at e3;obtain⟨q,hq⟩:=xq ((decide (i+2<=i/\i%2=0)&&(blocks ws i).isSome));rw[hq] at y;have B:=hid (uO ws m i Q.out f);obtain⟨r,hr⟩:=xq ((blocks ws i).isSome);rw[hr] at B e3;have H:=hid o;clear f o hq d hr Ke;obtain⟨w2,Kq⟩:∃w2,(O.alloc (.cells #[.int .i64 (i:Int),.int .i64 (S:Int),.int .i64 K,.int .i64 T,.bool M,.int .u64 X] 55))=w2:=⟨_,rfl⟩;rw[Kq] at e0 y e2 e3 B H;go_wp2;go_roundw
  case rel=>exact⟨i,by omega,by omega,Q.out,by go_num,B.out,H.out.setCell (kqa _) _⟩
  case measure=>simp[intOf];omega
 obtain rfl:k=a:=by have:=Km.out;omega
 have hlt2:(k:Int)-2<(k:Int):=by omega
 have s:k<m:=by omega
 have y:=g.cell s;have ik:(k:Int)<(m:Int):=by omega
 have ik0:(0:Int)<=(k:Int):=by omega
 unfold rtF at y;rw[show decide (k<=k/\k%2=0)=true by rw[kqn];exact⟨kqa _,Z⟩,kzq] at y;have d1:decide ((k:Int)<0)=false:=by rw[kqc];omega
 have d2:decide ((ws.length:Int)<(k:Int))=false:=by rw[kqc];omega
 have d2n:decide (ws.length<k)=false:=by rw[kqc];omega
 clear I Z g;cases C:blocks ws k with
 | none =>rw[C] at y;have HN:=hid C;rw[show (none:Option (List Bk)).isSome=false from rfl] at y;clear C;go_wp2;go_ret2;exact⟨DS HN.out,F⟩
 | some l =>
  rw[C] at y;have Ko:=hid C;rw[show (some l).isSome=true from rfl] at y;clear C;have Kh:=hid F;clear F;obtain⟨i2,hi,D,N,Kj⟩:=kzw kP;have HJ:=hid hi;have Ku:=hid D;have Kr:=hid N;have Kv:=hid Kj;clear hi D N Kj;go_wp2_with fail;clear y;go_loopw [1,10] (λp v wr=>∃(i:Nat) (j:List Bk),p=.int .i64 i/\i<=ws.length/\i%2=0/\blocks ws k=(blocks ws i).map (j ++ ·)/\j.length<=i/\wr.ownsRow w.heap.size 55 6 v j.length (j.flatMap Bk.cells)/\Below w.heap.size w wr) (λp _ _=>ws.length-(intOf p).toNat)
  case atStart=>exact⟨k,[],rfl,ha,Km.out,by simp,by simp,kza _ _ _ _,Kh.out⟩
  obtain⟨i,j,rfl,q2,Z,q4,q5,U,F⟩:=hrel;have R:=F.size;have Kw:=hid Z;have Eq:=hid q4;clear q4;by_cases I:i<ws.length
  .have Kk:i+1<ws.length:=by have:=HE.out;omega
   clear Z;have b:stands ws i=true:=by
    cases h:stands ws i with
    | true=>rfl
    | false=>have:=Eq.out;rw[di I h,Ko.out] at this;cases this
   have G:=aF b;have E:=hid (at_c A ws c ws.length i wr rfl (by omega) Kk (HR.out.up F R) HO.out);rw[(wL b).1,b] at E;have Y:=hid (show blocks ws k=(blocks ws (i+szAt ws i)).map ((j++[bkAt ws i]) ++ ·) by
    rw[Eq.out,aR I b];cases blocks ws (i+szAt ws i)<;>simp)
   have Kl:=hid (cq Bk.cells j (bkAt ws i));have J:=bq ws i;obtain⟨x,hx⟩:=xq (bkAt ws i);obtain⟨z,Kn⟩:=xq (szAt ws i);rw[hx] at E Y Kl J;rw[Kn] at Y G J;have HX:=hid hx;obtain⟨xa,xs,xk,xt,xm,xn⟩:=x;dsimp only at J;subst J;unfold Bk.val at E;dsimp only at E;obtain⟨z1,z2,z3⟩:=G;have Kp:=hid z2;clear b hx Kn z2;go_wp2_with fail;refine E.out.mono ?_;rintro e O ⟨rfl,d⟩;have o:=F.trans (d.mono R);have u:=ai U d (kqa _);have N:=o.size;go_wp2_with (at_builtin;refine kze _ rfl _ _ 48 rfl w.heap.size 55 i2 _ 6 48 underlying48 HJ.out Ku.out Kr.out Kv.out rfl (by decide) _ _ _ rfl ((u.alloc _).alloc _) ⟨_,0,none⟩ 1 1 [.int .i64 xa,.int .i64 (z:Int),.int .i64 xk,.int .i64 xt,.bool xm,.int .u64 (xn:Int)] rfl rfl (lA _ _ _ (kqm _ _)) (by simp[Value.oneCell']) (by unfold maxLen;omega) (by omega) (by simp;omega) ?_;intro v1 w2 Kb W _;have L:Bx w2 O.heap.size 55 #[.int .i64 xa,.int .i64 (z:Int),.int .i64 xk,.int .i64 xt,.bool xm,.int .u64 (xn:Int)]:=((Bx.new O 55 _).alloc _).grown W (qh u);have Ks:=aE (o.alloc N (.cells #[.int .i64 xa,.int .i64 (z:Int),.int .i64 xk,.int .i64 xt,.bool xm,.int .u64 (xn:Int)] 55)) (by simp;omega) (u.alloc _) W;have hc1:w2.cell? ⟨O.heap.size,1,none⟩=some (.int .i64 (z:Int)):=L.cell 1;have hf1:=L.frozen 1;have hl1:=L.lt;clear W L);go_roundw
   case rel=>exact⟨i+z,j++[⟨xa,(z:Int),xk,xt,xm,xn⟩],by rw[kjn],by omega,by have:=Kw.out;have:=Kp.out;omega,Y.out,by simp;omega,by rw[Kl.out,kqu];exact Kb,Ks⟩
   case measure=>simp[intOf];omega
  have hi:i=ws.length:=by omega
  have HD:=hid (show blocks ws k=some j by rw[Eq.out,aH (by omega)];simp);clear hi Z;go_wp2;go_ret2;exact⟨zI HD.out U,F⟩
end Go.Proofs.YtpcajamacpbjcaaGreat
