/- Texts laid together: CoW CoE Form Al35. -/
import Derived.Test.YtpcajamacpbjcaaGreatZKLy2
import Derived.Test.YtpcajamacpbjcaaGreatZKCp2
import Derived.Test.YtpcajamacpbjcaaGreatZKNx
import Derived.Test.YtpcajamacpbjcaaGreatZKStg1
import Derived.Test.YtpcajamacpbjcaaGreatZKEff
import Derived.Test.YtpcajamacpbjcaaGreatZKSup
import Derived.Laws.CopyOwn
import Derived.Test.YtpcajamacpbjcaaGreatZKRun
import Derived.Test.YtpcajamacpbjcaaGreatZKStg3
import Derived.Test.YtpcajamacpbjcaaGreatZSameW
import Derived.Test.YtpcajamacpbjcaaGreatZKImage
import Derived.Test.YtpcajamacpbjcaaGreatZKR19
set_option maxHeartbeats 16000000
set_option maxRecDepth 100000
set_option linter.all false
namespace Go.Proofs.YtpcajamacpbjcaaGreat
open Lib (hid)
open Go.RowKit
variable {ws:List Nat}{t:Nat}{w:World}
open Go.Proofs.Tryz
noncomputable def coL (ws:List Nat):List (List En):=if bT ws=0 then [⟨16,1⟩]::(rsE (dI ws)).2.1 else []
theorem gO(h:bT ws=0):ak (ws.length:Int)=true/\lay ws=true:=by
 unfold bT at h;cases a:ak (ws.length:Int)
 .rw[a] at h;cases h
 rw[a,if_pos rfl] at h;cases b:lay ws
 .rw[b] at h;cases h
 exact⟨rfl,rfl⟩
theorem jV(h:Lay ws t):bT ws=0:=by unfold bT;rw[rb h.ty,h.lay];rfl
theorem Lay.all(h:Lay ws t)(ho:∀v∈ws,v<18446744073709551616):f9 (dI ws)=(0,(rsE (dI ws)).2.1,cpZ ws):=by unfold f9;rw[if_pos h.first.2.1];have:=(h.run ho).all;rw[this];rfl
theorem qP(h:Lay ws t)(ho:∀v∈ws,v<18446744073709551616):(cpZ ws).length=ws.length:=(h.desc ho).1.len
theorem oa(A:Option Addr)(ws:List Nat)(c n:Nat)(w:World)(hn:ws.length=n)(hm:n<=9223372036854775807)(hc:n<=c)(hr:RdW w w.heap.size A ws)(ho:∀x∈ws,x<18446744073709551616):
 Calls prog 14 #[.slice A n c] w λe w'=>fL w.heap.size (bT ws) (if bT ws=0 then [⟨16,1⟩] else []) e w'/\Below w.heap.size w w':=by
 have f:=hid (rP A ws c n w hn hm hc hr ho);obtain⟨r,b⟩:=xq (bT ws);rw[b] at f |-;clear hr ho hc hm hn b;by_cases d:r=0
 .subst d;rw[if_pos rfl];go_enter func14,ntmps14;go_wp2_with fail;refine f.out.mono ?_;rintro e g ⟨rfl,a⟩;have i:=hid (cJ (n:=1) (sz:=2) g 89 #[.int .i64 16,.int .u64 1] (kqa _) (by rfl) (by unfold maxLen;omega));have j:=hid (a.alloc a.size (.cells #[.int .i64 16,.int .u64 1] 89));have h:=a.size;go_wp2;go_ret2;exact⟨⟨some ⟨g.heap.size,0,none⟩,1,rfl,am i.out h⟩,j.out⟩
 rw[if_neg d];have e1:(r != 0)=true:=by rw[kqv];exact d
 clear d;go_enter func14,ntmps14;go_wp2_with fail;refine f.out.mono ?_;rintro e g ⟨rfl,a⟩;go_wp2;go_ret2;exact⟨bN rfl rfl,a⟩
def JN (ws:List Nat) (H:Nat) (e:Ending) (w':World):Prop:=∃(L:List Ch) (B:Option Addr) (d:Nat) (vx:Value),e=.returned (.tuple #[.slice B L.length d,vx,.int .i64 (bT ws)])/\L.map Ch.l=coL ws/\RdC w' w'.heap.size B L/\(∀x∈L,x.l.length<=32/\RdE w' w'.heap.size x.A x.l) /\
 (bT ws=0->∃g c,vx=.slice (some ⟨g,0,none⟩) ws.length c/\w'.ownsRow H 53 1 (.slice (some ⟨g,0,none⟩) ws.length c) ws.length ((cpZ ws).flatMap ae))/\(bT ws≠0->vx=.slice none 0 0)
theorem Ch.one:∀x:Ch,∀u∈x.cells,u.oneCell'=true:=λx u a=>by unfold Ch.cells at a;rw[kqy] at a;subst a;rfl
theorem ou(A:Option Addr)(ws:List Nat)(c n:Nat)(w:World)(hn:ws.length=n)(hm:n<=9223372036854775807)(hc:n<=c)(hr:RdW w w.heap.size A ws)(ho:∀x∈ws,x<18446744073709551616):
 Calls prog 50 #[.slice A n c] w λe w'=>JN ws w.heap.size e w'/\Below w.heap.size w w':=by
 subst hn;have G:=hid (oa A ws c ws.length w rfl hm hc hr ho);have HR:=hid hr;by_cases g:bT ws=0
 .obtain ⟨hs,hl⟩:=gO g;obtain⟨t,v⟩:=se hl;rw[g,if_pos rfl] at G;unfold fL at G;have hlen:=(ab _).1 hs;have H:=hid (λB d W (h:RdW W W.heap.size A ws) (h2:RdE W W.heap.size B [⟨16,1⟩])=>pO A B ws [⟨16,1⟩] c d ws.length 1 W.heap.size W rfl rfl hs (by omega) (λe he=>by rw[kqy] at he;subst he;exact⟨by decide,by dsimp only;omega⟩) h h2 (kqa _));unfold Cn at H;rw[show ai ws [⟨16,1⟩]=dI ws from rfl,fv] at H;have q:=hid (λB d W (hd:ws.length<=d) (h:RdW W W.heap.size B (dI ws))=>D5 B (dI ws) d ws.length W (fv ws) hm hd h (kC ho));unfold AU at q;rw[v.all ho,fv] at q;have m:(rsE (dI ws)).2.1.length<=3000:=by have h1:=gi (kC ho) (v.all ho);have:=h1.2.2.1;rw[fv] at this;omega
  have Q:Hid (∀E∈(rsE (dI ws)).2.1,E.length<=32):=hid λE hE=>by
   obtain⟨i,V,rfl⟩:=kq0 hE;exact ((gi (kC ho) (v.all ho)).2.2.2.2.2 i V).le
  have X:Hid (coL ws=[⟨16,1⟩]::(rsE (dI ws)).2.1):=hid (by unfold coL;rw[if_pos g]);have Y:=hid g;obtain⟨z,hO⟩:=xq ((rsE (dI ws)).2.1);rw[hO] at q X m Q;obtain⟨i0,V,K,T,O⟩:=kzr oE;have HI:=hid V;have Lc:=hid K;have La:=hid T;have Ky:=hid O;clear V K T O;clear hr ho g hs hl v hc hO;go_enter func50,ntmps50;go_wp2_with fail;refine G.out.mono ?_;rintro e Z ⟨⟨I,N,rfl,a⟩,p⟩;have s:=hid p;have J:=hid (show RdE Z Z.heap.size I [⟨16,1⟩] from Rd.of_own a);clear p a;go_wp2_with fail;refine (H.out _ _ _ (HR.out.up s.out s.out.size) J.out).mono ?_;rintro e w2 ⟨g2,c2,rfl,b,k⟩;have F:=hid (s.out.trans (k.mono s.out.size));have Kw:=hid (J.out.up k k.size);have Ld:=hid (show RdW w2 w2.heap.size _ (dI ws) from Rd.of_own b);have u:=cK b;clear k b;go_wp2_with fail;refine (q.out _ _ _ u Ld.out).mono ?_;rintro e j ⟨⟨L,B,d,vx,rfl,v,hC,hv,-⟩,o⟩;obtain⟨g3,c3,rfl,-,P⟩:=hv trivial;have U:=hid (F.out.trans (o.mono F.out.size));have Eq:=hid (Kw.out.up o o.size);have Lb:=hid (am P F.out.size);have Kx:=hid (show RdC j j.heap.size B L from Rd.of_own hC.1);have Kz:=hid (λx y=>show RdE j j.heap.size x.A x.l from Rd.of_own (hC.2 x y));have hll:L.length<=3000:=by rw[<-v,kzg] at m;exact m
  have M:=hid v;clear o P hC v hv m u;go_wp2_with (at_builtin;refine aX _ (by rfl) _ _ 34 rfl j.heap.size 26 i0 _ 1 24 underlying34 HI.out Lc.out La.out Ky.out rfl (by decide) (.slice (some ⟨j.heap.size,0,none⟩) 1 1) 1 [.slice I 1 N] (by rfl) (cJ (n:=1) (sz:=1) j 26 #[.slice I 1 N] (kqa _) (by rfl) (by unfold maxLen;omega)) j.heap.size B L.length d (L.flatMap Ch.cells) (by rfl) (by rw[cm Ch.cells 1 Ch.len]) (Rd.alloc Kx.out (kqa _) _) (dy Ch.one _) (by unfold maxLen;omega) (by omega) (by simp) ?_;intro v1 wa a S;have R:=bu ((kqk j.heap.size j).alloc (kqa _) _) (by simp) (cJ (n:=1) (sz:=1) j 26 #[.slice I 1 N] (kqa _) (by rfl) (by unfold maxLen;omega)) S;have C:=hid a;have f:=hid R;clear a R S);obtain⟨Bv,dv,rfl⟩:=aE C.out;go_ret3;refine⟨⟨⟨I,N,[⟨16,1⟩]⟩::L,Bv,dv,_,by rw[Y.out,kq2,kjw];rfl,by rw[kxm,M.out,X.out],Rd.of_own C.out,λx y=>?_,λ_=>⟨g3,c3,rfl,aa Lb.out f.out (kqa _)⟩,λh=>absurd Y.out h⟩,U.out.trans (f.out.mono U.out.size)⟩;rcases kqw.1 y with rfl|y
  .exact ⟨by show 1<=32;decide,Eq.out.up f.out f.out.size⟩
  exact⟨Q.out _ (by rw[<-M.out];exact kx6 y),(Kz.out x y).up f.out f.out.size⟩
 rw[if_neg g] at G;have X:Hid (coL ws=[]):=hid (by unfold coL;rw[if_neg g]);have Y:=hid g;unfold fL at G;obtain⟨r,D⟩:=xq (bT ws);have HQ:=hid D;rw[D] at G g;have e1:(r != 0)=true:=by rw[kqv];exact g
 clear hr ho g D;go_enter func50,ntmps50;go_wp2_with fail;refine G.out.mono ?_;rintro e Z ⟨⟨I,N,rfl,-⟩,p⟩;go_wp2;go_ret3;exact⟨⟨[],none,0,_,by rw[HQ.out];rfl,by rw[X.out];rfl,Rd.nil_,λx y=>absurd y (by simp),λh=>absurd h Y.out,λ_=>rfl⟩,p⟩
def CvRes (ws:List Nat) (H:Nat) (e:Ending) (w':World):Prop:=(bT ws=0->∃g c,e=.returned (.tuple #[.slice (some ⟨g,0,none⟩) ws.length c,.int .i64 0])/\w'.ownsRow H 53 1 (.slice (some ⟨g,0,none⟩) ws.length c) ws.length ((cpZ ws).flatMap ae))/\(bT ws≠0->e=.returned (.tuple #[.slice none 0 0,.int .i64 (bT ws)]))
theorem EP(A:Option Addr)(ws:List Nat)(c n:Nat)(w:World)(hn:ws.length=n)(hm:n<=9223372036854775807)(hc:n<=c)(hr:RdW w w.heap.size A ws)(ho:∀x∈ws,x<18446744073709551616):
 Calls prog 15 #[.slice A n c] w λe w'=>CvRes ws w.heap.size e w'/\Below w.heap.size w w':=by
 subst hn;have l:=hid (ou A ws c ws.length w rfl hm hc hr ho);unfold JN at l;clear hr ho hm hc;go_enter func15,ntmps15;go_wp2_with fail;refine l.out.mono ?_;rintro e w1 ⟨⟨L,B,d,vx,rfl,-,-,-,j,k⟩,f⟩;have p:=hid j;have q:=hid k;clear j k;by_cases b:bT ws=0
 .obtain ⟨g,o,rfl,a⟩:=p.out b;have m:=hid a;have i:=hid b;rw[b];clear a b;go_wp2;go_ret2;exact⟨⟨λ_=>⟨g,o,rfl,m.out⟩,λh=>absurd i.out h⟩,f⟩
 obtain rfl:=q.out b;have i:=hid b;clear b;go_wp2;go_ret2;exact⟨⟨λh=>absurd h i.out,λ_=>rfl⟩,f⟩
noncomputable def sA (ws:List Nat):Value:=if bT ws=0 then jC ((coL ws).map av) else .tuple #[ke 0 0 0,.int .i64 (bT ws)]
theorem yi(A:Option Addr)(ws:List Nat)(c n:Nat)(w:World)(hn:ws.length=n)(hm:n<=9223372036854775807)(hc:n<=c)(E:RdW w w.heap.size A ws)(ho:∀x∈ws,x<18446744073709551616):
 Calls prog 29 #[.slice A n c] w λe w'=>e=.returned (sA ws)/\Below w.heap.size w w':=by
 subst hn;have HR:=hid E;have i:=hid (λW (h:RdW W W.heap.size A ws)=>ou A ws c ws.length W rfl hm hc h ho);unfold JN at i;by_cases k:bT ws=0
 .have u:sA ws=jC ((coL ws).map av):=by unfold sA;rw[if_pos k]
  have N:(coL ws).length<=4000:=by obtain⟨M,hl⟩:=gO k;obtain⟨t,z⟩:=se hl;have U:=gi (kC ho) (z.all ho);have Y:=U.2.2.1;have hb:=(ab _).1 M;rw[fv] at Y;unfold coL;rw[if_pos k,kq2];omega
  obtain⟨a,hO⟩:=xq (coL ws);rw[hO] at u N i;rw[k] at i;have T:=hid u;clear k u ho E hO;go_enter func29,ntmps29;go_wp2_with fail;refine (i.out _ ((HR.out.alloc (kqa _) _).more (by simp))).mono ?_;rintro e w1 ⟨⟨L,B,d,vx,rfl,z,F,C,m,-⟩,b⟩;rw[kqm] at b;have D:=Bx.of_new b;have o:=hid (ay b);obtain⟨g,cx,rfl,-⟩:=m trivial;have X:=hid F;have O:=hid (λx m=>(C x m).2);have P:L.length=a.length:=by rw[<-z,kzg]
  have I:chA L=a.map av:=by rw[<-z,List.map_map];rfl
  have Eq:Hid (∀x∈L,x.l.length<=maxLen):=hid λx m=>by
   have:=(C x m).1;unfold maxLen;omega
  have HS:=hid (λW U Y=>sum_n B L d L.length W rfl (by omega) U Y);rw[I] at HS;obtain⟨s,M⟩:=xq (smS (a.map av));obtain⟨f,hf⟩:=xq (smF (a.map av));obtain⟨q,hq⟩:=xq (smN (a.map av));obtain⟨r,E⟩:=xq (dB (a.map av));have HE:=hid (show jC (a.map av)=.tuple #[.agg #[.int .i64 s,.int .i64 f,.int .i64 q],.int .i64 r] by rw[jC,ke,M,hf,hq,E]);have Z:=D.lt;have B1:=hid D;obtain⟨K,G,J,p3,p4,R,Q⟩:=D.c3;clear M hf hq E m F C z b P I D;go_wp2_with fail;refine (HS.out w1 (show RdC _ _ _ _ from X.out) (λx m=>⟨Eq.out x m,O.out x m⟩)).mono ?_;rintro e w2 ⟨rfl,y⟩;rw[HE.out];have V:=hid (o.out.trans (y.mono o.out.size));have S:=B1.out.up y Z;clear K G J p3 p4 R Q;obtain⟨K,G,J,p3,p4,R,Q⟩:=S.c3;have C2:=hid S;clear y S;go_wp2_with fail;refine kqq (v:=.tuple #[ke s f q,.int .i64 r]) (by simp[results,results29,go_sem,ke,K,G,J]) rfl ⟨by rw[T.out,HE.out];rfl,?_⟩;exact ((V.out.setCell (kqa _) _).setCell (kqa _) _).setCell (kqa _) _
 have u:sA ws=.tuple #[ke 0 0 0,.int .i64 (bT ws)]:=by unfold sA;rw[if_neg k]
 obtain⟨j,p⟩:=xq (bT ws);rw[p] at i u k;have hne:(j != 0)=true:=by rw[kqv];exact k
 have dn0:decide (j=0)=false:=by rw[kqh];exact k
 have T:=hid u;clear p u ho E;go_enter func29,ntmps29;go_wp2_with fail;refine (i.out _ ((HR.out.alloc (kqa _) _).more (by simp))).mono ?_;rintro e w1 ⟨⟨L,B,d,vx,rfl,z,-,-,-,H⟩,b⟩;rw[kqm] at b;have D:=Bx.of_new b;have o:=hid (ay b);rw[H k];obtain⟨K,G,J,p3,p4,R,Q⟩:=D.c3;clear H k z b;go_wp2_with fail;refine kqq (v:=.tuple #[ke 0 0 0,.int .i64 j]) (by simp[results,results29,go_sem,ke,K,G,J]) rfl ⟨by rw[T.out],?_⟩;exact ((o.out.setCell (kqa _) _).setCell (kqa _) _).setCell (kqa _) _
theorem ko(ws:List Nat)(k:Nat):(ws.drop k).flatMap ae=(ws.flatMap ae).drop k:=pI ae bY ws k
theorem n9{H n sz g c:Nat}{e:TypeId}{xs:List Value}(h:w.ownsRow H e sz (.slice (some ⟨g,0,none⟩) n c) n xs):∃a:List Value,w.heap[g]? = some (.cells a.toArray e (0,0))/\H<=g/\n<=c/\c<=maxLen/\a.length=c*sz/\a.take (n*sz)=xs:=by
 rcases h.2 with⟨b,-⟩|⟨g',cap,a,b,i,f,k,j,l,d⟩
 .cases b
 simp only[Value.slice.injEq,Option.some.injEq,Addr.mk.injEq,and_true,true_and] at b;obtain⟨rfl,rfl⟩:=b;exact⟨a.toList,by rw[f],i,k,j,by rw[kku,l],d⟩
theorem rf{P:Program}{ops:Array Oper}{rest:List Oper}{a:Act}{Q:Exit->Act->World->Prop}{dst:Option Tmp}{type:TypeId}{pos:String}{after:Array Edge}{guard:Option (Nat × Bool)}{xs:Array Operand}{ts:Array TypeId}(h:wpList P ops Q ({ dst:=dst,op:=.call { callee:=.builtin .copy,args:=xs,argTypes:=ts },type:=type,pos:=pos,after:=after,guard:=guard }::rest) a w):wpList P ops Q ({ dst:=dst,op:=.call { callee:=.builtin .copy,args:=xs,argTypes:=ts },type:=type,pos:=pos,after:=after,guard:=guard }::rest) a w:=h
theorem gX(b o j:Nat):(⟨b,o,none⟩:Addr).add j=⟨b,o+j,none⟩:=by unfold Addr.add;split<;>simp_all
end Go.Proofs.YtpcajamacpbjcaaGreat
