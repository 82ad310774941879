/- Texts laid together: CoW CoE Form Al35. -/
import Derived.Test.YtpcajamacpbjcaaGreatZKLy2
import Derived.Test.YtpcajamacpbjcaaGreatZKCp2
import Derived.Test.YtpcajamacpbjcaaGreatZKNx
import Derived.Test.YtpcajamacpbjcaaGreatZKStg1
import Derived.Test.YtpcajamacpbjcaaGreatZKEff
import Derived.Test.YtpcajamacpbjcaaGreatZKSup
import Derived.Laws.CopyOwn
import Derived.Test.YtpcajamacpbjcaaGreatZKRs
import Derived.Test.YtpcajamacpbjcaaGreatZKStg3
import Derived.Test.YtpcajamacpbjcaaGreatZSameW
import Derived.Test.YtpcajamacpbjcaaGreatZKImage
import Derived.Test.YtpcajamacpbjcaaGreatZKR19
set_option maxHeartbeats 16000000
set_option maxRecDepth 100000
set_option linter.all false
namespace Go.Proofs.YtpcajamacpbjcaaGreat
open Lib (hid)
open Go.RowKit
variable {ws:List Nat}{t:Nat}
open Go.Proofs.Tryz
noncomputable def coL (ws:List Nat):List (List En):=if bv ws=0 then [⟨16,1⟩]::(rsE (gF ws)).2.1 else []
noncomputable def coV (ws:List Nat):List Nat:=if bv ws=0 then cpZ ws else []
theorem f9(h:bv ws=0):ak (ws.length:Int)=true/\lay ws=true:=by
 unfold bv at h;cases a:ak (ws.length:Int)
 .rw[a] at h;cases h
 rw[a,if_pos rfl] at h;cases b:lay ws
 .rw[b] at h;cases h
 exact⟨rfl,rfl⟩
theorem Lay.all(h:Lay ws t)(ho:∀v∈ws,v<18446744073709551616):fH (gF ws)=(0,(rsE (gF ws)).2.1,cpZ ws):=by unfold fH;rw[if_pos h.first.2.1];have:=(h.run ho).all;rw[this];rfl
theorem DT(h:Lay ws t)(ho:∀v∈ws,v<18446744073709551616):(cpZ ws).length=ws.length:=(h.desc ho).1.len
theorem ri(A:Option Addr)(ws:List Nat)(c n:Nat)(w:World)(hn:ws.length=n)(hm:n<=9223372036854775807)(hc:n<=c)(hr:RdW w w.heap.size A ws)(ho:∀x∈ws,x<18446744073709551616):
 Calls prog 14 #[.slice A n c] w λe w'=>dx w.heap.size (bv ws) (if bv ws=0 then [⟨16,1⟩] else []) e w'/\Below w.heap.size w w':=by
 have f:=hid (zv A ws c n w hn hm hc hr ho);obtain⟨r,b⟩:=xq (bv ws);rw[b] at f |-;clear hr ho hc hm hn b;by_cases d:r=0
 .subst d;rw[if_pos rfl];go_enter func14,ntmps14;go_wp2_with fail;refine f.out.mono ?_;rintro e g ⟨rfl,a⟩;have i:=hid (bh (n:=1) (sz:=2) g 89 #[.int .i64 16,.int .u64 1] (kqb _) (by rfl) (by unfold maxLen;omega));have h:=hid (a.alloc a.size (.cells #[.int .i64 16,.int .u64 1] 89));have j:=a.size;go_wp2;go_ret2;exact⟨⟨some ⟨g.heap.size,0,none⟩,1,rfl,ar i.out j⟩,h.out⟩
 rw[if_neg d];have e1:(r != 0)=true:=by rw[kqt];exact d
 clear d;go_enter func14,ntmps14;go_wp2_with fail;refine f.out.mono ?_;rintro e g ⟨rfl,a⟩;go_wp2;go_ret2;exact⟨bH rfl rfl,a⟩
def vD (ws:List Nat) (H:Nat) (e:Ending) (w':World):Prop:=∃(L:List Ch) (B:Option Addr) (d:Nat) (vx:Value),e=.returned (.tuple #[.slice B L.length d,vx,.int .i64 (bv ws)])/\L.map Ch.l=coL ws/\RdC w' w'.heap.size B L/\(∀x∈L,x.l.length<=32/\RdE w' w'.heap.size x.A x.l) /\
 (bv ws=0->∃g c,vx=.slice (some ⟨g,0,none⟩) ws.length c/\w'.ownsRow H 53 1 (.slice (some ⟨g,0,none⟩) ws.length c) ws.length ((cpZ ws).flatMap au))/\(bv ws≠0->vx=.slice none 0 0)
theorem Ch.one:∀x:Ch,∀u∈x.cells,u.oneCell'=true:=λx u a=>by unfold Ch.cells at a;rw[kq7] at a;subst a;rfl
theorem m9(A:Option Addr)(ws:List Nat)(c n:Nat)(w:World)(hn:ws.length=n)(hm:n<=9223372036854775807)(hc:n<=c)(hr:RdW w w.heap.size A ws)(ho:∀x∈ws,x<18446744073709551616):
 Calls prog 50 #[.slice A n c] w λe w'=>vD ws w.heap.size e w'/\Below w.heap.size w w':=by
 subst hn;have F:=hid (ri A ws c ws.length w rfl hm hc hr ho);have HR:=hid hr;by_cases j:bv ws=0
 .obtain ⟨hs,hl⟩:=f9 j;obtain⟨t,C⟩:=qk hl;rw[j,if_pos rfl] at F;unfold dx at F;have hlen:=(af _).1 hs;have D:=hid (λB d W (h:RdW W W.heap.size A ws) (h2:RdE W W.heap.size B [⟨16,1⟩])=>xK A B ws [⟨16,1⟩] c d ws.length 1 W.heap.size W rfl rfl hs (by omega) (λe he=>by rw[kq7] at he;subst he;exact⟨by decide,by dsimp only;omega⟩) h h2 (kqb _));unfold OwnV at D;rw[show aj ws [⟨16,1⟩]=gF ws from rfl,fB] at D;have o:=hid (λB d W (hd:ws.length<=d) (h:RdW W W.heap.size B (gF ws))=>rAll_c B (gF ws) d ws.length W (fB ws) hm hd h (pK ho));unfold EN at o;rw[C.all ho,fB] at o;have m:(rsE (gF ws)).2.1.length<=3000:=by have h1:=jD (pK ho) (C.all ho);have:=h1.2.2.1;rw[fB] at this;omega
  have K:Hid (∀E∈(rsE (gF ws)).2.1,E.length<=32):=hid λE hE=>by
   obtain⟨i,X,rfl⟩:=kqv hE;exact ((jD (pK ho) (C.all ho)).2.2.2.2.2 i X).le
  have Y:Hid (coL ws=[⟨16,1⟩]::(rsE (gF ws)).2.1):=hid (by unfold coL;rw[if_pos j]);have V:=hid j;obtain⟨u,hO⟩:=xq ((rsE (gF ws)).2.1);rw[hO] at o Y m K;obtain⟨i0,X,N,U,M⟩:=kze pq;have HI:=hid X;have Fr:=hid N;have Fo:=hid U;have Fs:=hid M;clear X N U M;clear hr ho j hs hl C hc hO;go_enter func50,ntmps50;go_wp2_with fail;refine F.out.mono ?_;rintro e w1 ⟨⟨I,R,rfl,a⟩,q⟩;have p:=hid q;have Q:=hid (show RdE w1 w1.heap.size I [⟨16,1⟩] from Rd.of_own a);clear q a;go_wp2_with fail;refine (D.out _ _ _ (HR.out.up p.out p.out.size) Q.out).mono ?_;rintro e w2 ⟨g2,c2,rfl,b,s⟩;have G:=hid (p.out.trans (s.mono p.out.size));have Z:=hid (Q.out.up s s.size);have Fq:=hid (show RdW w2 w2.heap.size _ (gF ws) from Rd.of_own b);have v:=jt b;clear s b;go_wp2_with fail;refine (o.out _ _ _ v Fq.out).mono ?_;rintro e g ⟨⟨L,B,d,vx,rfl,C,hC,hv,-⟩,k⟩;obtain⟨g3,c3,rfl,-,S⟩:=hv trivial;have P:=hid (G.out.trans (k.mono G.out.size));have Ft:=hid (Z.out.up k k.size);have Fu:=hid (ar S G.out.size);have Fp:=hid (show RdC g g.heap.size B L from Rd.of_own hC.1);have Eq:=hid (λx z=>show RdE g g.heap.size x.A x.l from Rd.of_own (hC.2 x z));have hll:L.length<=3000:=by rw[<-C,kzl] at m;exact m
  have O:=hid C;clear k S hC C hv m v;go_wp2_with (at_builtin;refine aI _ (by rfl) _ _ 34 rfl g.heap.size 26 i0 _ 1 24 underlying34 HI.out Fr.out Fo.out Fs.out rfl (by decide) (.slice (some ⟨g.heap.size,0,none⟩) 1 1) 1 [.slice I 1 R] (by rfl) (bh (n:=1) (sz:=1) g 26 #[.slice I 1 R] (kqb _) (by rfl) (by unfold maxLen;omega)) g.heap.size B L.length d (L.flatMap Ch.cells) (by rfl) (by rw[bY Ch.cells 1 Ch.len]) (Rd.alloc Fp.out (kqb _) _) (cn Ch.one _) (by unfold maxLen;omega) (by omega) (by simp) ?_;intro v1 wa a J;have T:=aM ((kqk g.heap.size g).alloc (kqb _) _) (by simp) (bh (n:=1) (sz:=1) g 26 #[.slice I 1 R] (kqb _) (by rfl) (by unfold maxLen;omega)) J;have y:=hid a;have f:=hid T;clear a T J);obtain⟨Bv,dv,rfl⟩:=ap y.out;go_ret3;refine⟨⟨⟨I,R,[⟨16,1⟩]⟩::L,Bv,dv,_,by rw[V.out,kq3,kxs];rfl,by rw[kx0,O.out,Y.out],Rd.of_own y.out,λx z=>?_,λ_=>⟨g3,c3,rfl,ae Fu.out f.out (kqb _)⟩,λh=>absurd V.out h⟩,P.out.trans (f.out.mono P.out.size)⟩;rcases kq0.1 z with rfl|z
  .exact ⟨by show 1<=32;decide,Ft.out.up f.out f.out.size⟩
  exact⟨K.out _ (by rw[<-O.out];exact kjb z),(Eq.out x z).up f.out f.out.size⟩
 rw[if_neg j] at F;have Y:Hid (coL ws=[]):=hid (by unfold coL;rw[if_neg j]);have V:=hid j;unfold dx at F;obtain⟨r,H⟩:=xq (bv ws);have HQ:=hid H;rw[H] at F j;have e1:(r != 0)=true:=by rw[kqt];exact j
 clear hr ho j H;go_enter func50,ntmps50;go_wp2_with fail;refine F.out.mono ?_;rintro e w1 ⟨⟨I,R,rfl,-⟩,q⟩;go_wp2;go_ret3;exact⟨⟨[],none,0,_,by rw[HQ.out];rfl,by rw[Y.out];rfl,Rd.nil_,λx z=>absurd z (by simp),λh=>absurd h V.out,λ_=>rfl⟩,q⟩
def Br (ws:List Nat) (H:Nat) (e:Ending) (w':World):Prop:=(bv ws=0->∃g c,e=.returned (.tuple #[.slice (some ⟨g,0,none⟩) ws.length c,.int .i64 0])/\w'.ownsRow H 53 1 (.slice (some ⟨g,0,none⟩) ws.length c) ws.length ((cpZ ws).flatMap au))/\(bv ws≠0->e=.returned (.tuple #[.slice none 0 0,.int .i64 (bv ws)]))
theorem AY(A:Option Addr)(ws:List Nat)(c n:Nat)(w:World)(hn:ws.length=n)(hm:n<=9223372036854775807)(hc:n<=c)(hr:RdW w w.heap.size A ws)(ho:∀x∈ws,x<18446744073709551616):
 Calls prog 15 #[.slice A n c] w λe w'=>Br ws w.heap.size e w'/\Below w.heap.size w w':=by
 subst hn;have k:=hid (m9 A ws c ws.length w rfl hm hc hr ho);unfold vD at k;clear hr ho hm hc;go_enter func15,ntmps15;go_wp2_with fail;refine k.out.mono ?_;rintro e w1 ⟨⟨L,B,d,vx,rfl,-,-,-,l,j⟩,f⟩;have p:=hid l;have q:=hid j;clear l j;by_cases b:bv ws=0
 .obtain ⟨g,o,rfl,a⟩:=p.out b;have m:=hid a;have i:=hid b;rw[b];clear a b;go_wp2;go_ret2;exact⟨⟨λ_=>⟨g,o,rfl,m.out⟩,λh=>absurd i.out h⟩,f⟩
 obtain rfl:=q.out b;have i:=hid b;clear b;go_wp2;go_ret2;exact⟨⟨λh=>absurd h i.out,λ_=>rfl⟩,f⟩
noncomputable def lN (ws:List Nat):Value:=if bv ws=0 then ge ((coL ws).map aB) else .tuple #[eD 0 0 0,.int .i64 (bv ws)]
theorem vd(A:Option Addr)(ws:List Nat)(c n:Nat)(w:World)(hn:ws.length=n)(hm:n<=9223372036854775807)(hc:n<=c)(E:RdW w w.heap.size A ws)(ho:∀x∈ws,x<18446744073709551616):
 Calls prog 29 #[.slice A n c] w λe w'=>e=.returned (lN ws)/\Below w.heap.size w w':=by
 subst hn;have HR:=hid E;have i:=hid (λW (h:RdW W W.heap.size A ws)=>m9 A ws c ws.length W rfl hm hc h ho);unfold vD at i;by_cases j:bv ws=0
 .have z:lN ws=ge ((coL ws).map aB):=by unfold lN;rw[if_pos j]
  have O:(coL ws).length<=4000:=by obtain⟨M,hl⟩:=f9 j;obtain⟨t,y⟩:=qk hl;have Z:=jD (pK ho) (y.all ho);have T:=Z.2.2.1;have hb:=(af _).1 M;rw[fB] at T;unfold coL;rw[if_pos j,kq3];omega
  obtain⟨a,hO⟩:=xq (coL ws);rw[hO] at z O i;rw[j] at i;have P:=hid z;clear j z ho E hO;go_enter func29,ntmps29;go_wp2_with fail;refine (i.out _ ((HR.out.alloc (kqb _) _).more (by simp))).mono ?_;rintro e w1 ⟨⟨L,B,d,vx,rfl,y,J,C,m,-⟩,b⟩;rw[kqn] at b;have D:=Bx.of_new b;have o:=hid (ao b);obtain⟨g,cx,rfl,-⟩:=m trivial;have Fp:=hid J;have Fo:=hid (λx m=>(C x m).2);have S:L.length=a.length:=by rw[<-y,kzl]
  have K:chA L=a.map aB:=by rw[<-y,List.map_map];rfl
  have N:Hid (∀x∈L,x.l.length<=maxLen):=hid λx m=>by
   have:=(C x m).1;unfold maxLen;omega
  have HS:=hid (λW Z T=>sum_n B L d L.length W rfl (by omega) Z T);rw[K] at HS;obtain⟨s,M⟩:=xq (smS (a.map aB));obtain⟨f,hf⟩:=xq (smF (a.map aB));obtain⟨q,hq⟩:=xq (smN (a.map aB));obtain⟨r,E⟩:=xq (dW (a.map aB));have HE:=hid (show ge (a.map aB)=.tuple #[.agg #[.int .i64 s,.int .i64 f,.int .i64 q],.int .i64 r] by rw[ge,eD,M,hf,hq,E]);have R:=D.lt;have B1:=hid D;obtain⟨I,H,F,Q,Y,V,X⟩:=D.c3;clear M hf hq E m J C y b S K D;go_wp2_with fail;refine (HS.out w1 (show RdC _ _ _ _ from Fp.out) (λx m=>⟨N.out x m,Fo.out x m⟩)).mono ?_;rintro e w2 ⟨rfl,u⟩;rw[HE.out];have Eq:=hid (o.out.trans (u.mono o.out.size));have U:=B1.out.up u R;clear I H F Q Y V X;obtain⟨I,H,F,Q,Y,V,X⟩:=U.c3;have C2:=hid U;clear u U;go_wp2_with fail;refine kqr (v:=.tuple #[eD s f q,.int .i64 r]) (by simp[results,results29,go_sem,eD,I,H,F]) rfl ⟨by rw[P.out,HE.out];rfl,?_⟩;exact ((Eq.out.setCell (kqb _) _).setCell (kqb _) _).setCell (kqb _) _
 have z:lN ws=.tuple #[eD 0 0 0,.int .i64 (bv ws)]:=by unfold lN;rw[if_neg j]
 obtain⟨k,p⟩:=xq (bv ws);rw[p] at i z j;have hne:(k != 0)=true:=by rw[kqt];exact j
 have dn0:decide (k=0)=false:=by rw[kqc];exact j
 have P:=hid z;clear p z ho E;go_enter func29,ntmps29;go_wp2_with fail;refine (i.out _ ((HR.out.alloc (kqb _) _).more (by simp))).mono ?_;rintro e w1 ⟨⟨L,B,d,vx,rfl,y,-,-,-,G⟩,b⟩;rw[kqn] at b;have D:=Bx.of_new b;have o:=hid (ao b);rw[G j];obtain⟨I,H,F,Q,Y,V,X⟩:=D.c3;clear G j y b;go_wp2_with fail;refine kqr (v:=.tuple #[eD 0 0 0,.int .i64 k]) (by simp[results,results29,go_sem,eD,I,H,F]) rfl ⟨by rw[P.out],?_⟩;exact ((o.out.setCell (kqb _) _).setCell (kqb _) _).setCell (kqb _) _
end Go.Proofs.YtpcajamacpbjcaaGreat
