/- Texts laid together: CoW CoE Form Al35. -/
import Derived.Test.YtpcajamacpbjcaaGreatZKLy2
import Derived.Test.YtpcajamacpbjcaaGreatZKCp2
import Derived.Test.YtpcajamacpbjcaaGreatZKNx
import Derived.Test.YtpcajamacpbjcaaGreatZKStg1
import Derived.Test.YtpcajamacpbjcaaGreatZKEff
import Derived.Test.YtpcajamacpbjcaaGreatZKSup
import Derived.Laws.CopyOwn
import Derived.Test.YtpcajamacpbjcaaGreatZKRun
import Derived.Test.YtpcajamacpbjcaaGreatZKStg3
import Derived.Test.YtpcajamacpbjcaaGreatZSameW
import Derived.Test.YtpcajamacpbjcaaGreatZKImage
import Derived.Test.YtpcajamacpbjcaaGreatZKR19
set_option maxHeartbeats 16000000
set_option maxRecDepth 100000
set_option linter.all false
namespace Go.Proofs.YtpcajamacpbjcaaGreat
open Lib (hid)
open Go.RowKit
variable {ws:List Nat}{n t:Nat}{w:World}
open Go.Proofs.Tryz
noncomputable def coL (ws:List Nat):List (List En):=if bN ws=0 then [⟨16,1⟩]::(rsE (gA ws)).2.1 else []
theorem gc(h:bN ws=0):aj (ws.length:Int)=true/\lay ws=true:=by
 unfold bN at h;cases a:aj (ws.length:Int)
 .rw[a] at h;cases h
 rw[a,if_pos rfl] at h;cases b:lay ws
 .rw[b] at h;cases h
 exact⟨rfl,rfl⟩
theorem li(h:Lay ws t):bN ws=0:=by unfold bN;rw[qD h.ty,h.lay];rfl
theorem Lay.all(h:Lay ws t)(ho:∀v∈ws,v<18446744073709551616):gU (gA ws)=(0,(rsE (gA ws)).2.1,cpZ ws):=by unfold gU;rw[if_pos h.first.2.1];have:=(h.run ho).all;rw[this];rfl
theorem zg(h:Lay ws t)(ho:∀v∈ws,v<18446744073709551616):(cpZ ws).length=ws.length:=(h.desc ho).1.len
theorem sQ(A:Option Addr)(ws:List Nat)(c n:Nat)(w:World)(hn:ws.length=n)(hm:n<=9223372036854775807)(hc:n<=c)(hr:RdW w w.heap.size A ws)(ho:∀x∈ws,x<18446744073709551616):
 Calls prog 14 #[.slice A n c] w λe w'=>iu w.heap.size (bN ws) (if bN ws=0 then [⟨16,1⟩] else []) e w'/\Below w.heap.size w w':=by
 have f:=hid (Av A ws c n w hn hm hc hr ho);obtain⟨r,b⟩:=xq (bN ws);rw[b] at f |-;clear hr ho hc hm hn b;by_cases d:r=0
 .subst d;rw[if_pos rfl];go_enter func14,ntmps14;go_wp2_with fail;refine f.out.mono ?_;rintro e g ⟨rfl,a⟩;have h:=hid (de (n:=1) (sz:=2) g 89 #[.int .i64 16,.int .u64 1] (kqa _) (by rfl) (by unfold maxLen;omega));have j:=hid (a.alloc a.size (.cells #[.int .i64 16,.int .u64 1] 89));have i:=a.size;go_wp2;go_ret2;exact⟨⟨some ⟨g.heap.size,0,none⟩,1,rfl,ao h.out i⟩,j.out⟩
 rw[if_neg d];have e1:(r != 0)=true:=by rw[kqv];exact d
 clear d;go_enter func14,ntmps14;go_wp2_with fail;refine f.out.mono ?_;rintro e g ⟨rfl,a⟩;go_wp2;go_ret2;exact⟨bQ rfl rfl,a⟩
def H6 (ws:List Nat) (H:Nat) (e:Ending) (w':World):Prop:=∃(L:List Ch) (B:Option Addr) (d:Nat) (vx:Value),e=.returned (.tuple #[.slice B L.length d,vx,.int .i64 (bN ws)])/\L.map Ch.l=coL ws/\RdC w' w'.heap.size B L/\(∀x∈L,x.l.length<=32/\RdE w' w'.heap.size x.A x.l) /\
 (bN ws=0->∃g c,vx=.slice (some ⟨g,0,none⟩) ws.length c/\w'.ownsRow H 53 1 (.slice (some ⟨g,0,none⟩) ws.length c) ws.length ((cpZ ws).flatMap ag))/\(bN ws≠0->vx=.slice none 0 0)
theorem Ch.one:∀x:Ch,∀u∈x.cells,u.oneCell'=true:=λx u a=>by unfold Ch.cells at a;rw[kq1] at a;subst a;rfl
theorem nG(A:Option Addr)(ws:List Nat)(c n:Nat)(w:World)(hn:ws.length=n)(hm:n<=9223372036854775807)(hc:n<=c)(hr:RdW w w.heap.size A ws)(ho:∀x∈ws,x<18446744073709551616):
 Calls prog 50 #[.slice A n c] w λe w'=>H6 ws w.heap.size e w'/\Below w.heap.size w w':=by
 subst hn;have H:=hid (sQ A ws c ws.length w rfl hm hc hr ho);have HR:=hid hr;by_cases g:bN ws=0
 .obtain ⟨hs,hl⟩:=gc g;obtain⟨t,z⟩:=mm hl;rw[g,if_pos rfl] at H;unfold iu at H;have hlen:=(aa _).1 hs;have F:=hid (λB d W (h:RdW W W.heap.size A ws) (h2:RdE W W.heap.size B [⟨16,1⟩])=>Bg A B ws [⟨16,1⟩] c d ws.length 1 W.heap.size W rfl rfl hs (by omega) (λe he=>by rw[kq1] at he;subst he;exact⟨by decide,by dsimp only;omega⟩) h h2 (kqa _));unfold OwnV at F;rw[show ak ws [⟨16,1⟩]=gA ws from rfl,gR] at F;have s:=hid (λB d W (hd:ws.length<=d) (h:RdW W W.heap.size B (gA ws))=>rAll_c B (gA ws) d ws.length W (gR ws) hm hd h (oI ho));unfold GI at s;rw[z.all ho,gR] at s;have m:(rsE (gA ws)).2.1.length<=3000:=by have h1:=jS (oI ho) (z.all ho);have:=h1.2.2.1;rw[gR] at this;omega
  have M:Hid (∀E∈(rsE (gA ws)).2.1,E.length<=32):=hid λE hE=>by
   obtain⟨i,V,rfl⟩:=kqz hE;exact ((jS (oI ho) (z.all ho)).2.2.2.2.2 i V).le
  have Y:Hid (coL ws=[⟨16,1⟩]::(rsE (gA ws)).2.1):=hid (by unfold coL;rw[if_pos g]);have X:=hid g;obtain⟨u,hO⟩:=xq ((rsE (gA ws)).2.1);rw[hO] at s Y m M;obtain⟨i0,V,O,P,S⟩:=kzw B8;have HI:=hid V;have Kg:=hid O;have Kc:=hid P;have Z:=hid S;clear V O P S;clear hr ho g hs hl z hc hO;go_enter func50,ntmps50;go_wp2_with fail;refine H.out.mono ?_;rintro e w1 ⟨⟨I,K,rfl,a⟩,p⟩;have k:=hid p;have R:=hid (show RdE w1 w1.heap.size I [⟨16,1⟩] from Rd.of_own a);clear p a;go_wp2_with fail;refine (F.out _ _ _ (HR.out.up k.out k.out.size) R.out).mono ?_;rintro e w2 ⟨g2,c2,rfl,b,o⟩;have G:=hid (k.out.trans (o.mono k.out.size));have Ke:=hid (R.out.up o o.size);have Kd:=hid (show RdW w2 w2.heap.size _ (gA ws) from Rd.of_own b);have v:=cH b;clear o b;go_wp2_with fail;refine (s.out _ _ _ v Kd.out).mono ?_;rintro e j ⟨⟨L,B,d,vx,rfl,z,hC,hv,-⟩,q⟩;obtain⟨g3,c3,rfl,-,N⟩:=hv trivial;have U:=hid (G.out.trans (q.mono G.out.size));have Kb:=hid (Ke.out.up q q.size);have Eq:=hid (ao N G.out.size);have Kf:=hid (show RdC j j.heap.size B L from Rd.of_own hC.1);have Ka:=hid (λx y=>show RdE j j.heap.size x.A x.l from Rd.of_own (hC.2 x y));have hll:L.length<=3000:=by rw[<-z,kzo] at m;exact m
  have T:=hid z;clear q N hC z hv m v;go_wp2_with (at_builtin;refine bJ _ (by rfl) _ _ 34 rfl j.heap.size 26 i0 _ 1 24 underlying34 HI.out Kg.out Kc.out Z.out rfl (by decide) (.slice (some ⟨j.heap.size,0,none⟩) 1 1) 1 [.slice I 1 K] (by rfl) (de (n:=1) (sz:=1) j 26 #[.slice I 1 K] (kqa _) (by rfl) (by unfold maxLen;omega)) j.heap.size B L.length d (L.flatMap Ch.cells) (by rfl) (by rw[cw Ch.cells 1 Ch.len]) (Rd.alloc Kf.out (kqa _) _) (dP Ch.one _) (by unfold maxLen;omega) (by omega) (by simp) ?_;intro v1 wa a J;have Q:=cB ((kqk j.heap.size j).alloc (kqa _) _) (by simp) (de (n:=1) (sz:=1) j 26 #[.slice I 1 K] (kqa _) (by rfl) (by unfold maxLen;omega)) J;have C:=hid a;have f:=hid Q;clear a Q J);obtain⟨Bv,dv,rfl⟩:=aO C.out;go_ret3;refine⟨⟨⟨I,K,[⟨16,1⟩]⟩::L,Bv,dv,_,by rw[X.out,kq0,kju];rfl,by rw[kxj,T.out,Y.out],Rd.of_own C.out,λx y=>?_,λ_=>⟨g3,c3,rfl,ai Eq.out f.out (kqa _)⟩,λh=>absurd X.out h⟩,U.out.trans (f.out.mono U.out.size)⟩;rcases kqx.1 y with rfl|y
  .exact ⟨by show 1<=32;decide,Kb.out.up f.out f.out.size⟩
  exact⟨M.out _ (by rw[<-T.out];exact kjk y),(Ka.out x y).up f.out f.out.size⟩
 rw[if_neg g] at H;have Y:Hid (coL ws=[]):=hid (by unfold coL;rw[if_neg g]);have X:=hid g;unfold iu at H;obtain⟨r,D⟩:=xq (bN ws);have HQ:=hid D;rw[D] at H g;have e1:(r != 0)=true:=by rw[kqv];exact g
 clear hr ho g D;go_enter func50,ntmps50;go_wp2_with fail;refine H.out.mono ?_;rintro e w1 ⟨⟨I,K,rfl,-⟩,p⟩;go_wp2;go_ret3;exact⟨⟨[],none,0,_,by rw[HQ.out];rfl,by rw[Y.out];rfl,Rd.nil_,λx y=>absurd y (by simp),λh=>absurd h X.out,λ_=>rfl⟩,p⟩
def Hr (ws:List Nat) (H:Nat) (e:Ending) (w':World):Prop:=(bN ws=0->∃g c,e=.returned (.tuple #[.slice (some ⟨g,0,none⟩) ws.length c,.int .i64 0])/\w'.ownsRow H 53 1 (.slice (some ⟨g,0,none⟩) ws.length c) ws.length ((cpZ ws).flatMap ag))/\(bN ws≠0->e=.returned (.tuple #[.slice none 0 0,.int .i64 (bN ws)]))
theorem qM(A:Option Addr)(ws:List Nat)(c n:Nat)(w:World)(hn:ws.length=n)(hm:n<=9223372036854775807)(hc:n<=c)(hr:RdW w w.heap.size A ws)(ho:∀x∈ws,x<18446744073709551616):
 Calls prog 15 #[.slice A n c] w λe w'=>Hr ws w.heap.size e w'/\Below w.heap.size w w':=by
 subst hn;have l:=hid (nG A ws c ws.length w rfl hm hc hr ho);unfold H6 at l;clear hr ho hm hc;go_enter func15,ntmps15;go_wp2_with fail;refine l.out.mono ?_;rintro e w1 ⟨⟨L,B,d,vx,rfl,-,-,-,j,k⟩,f⟩;have q:=hid j;have o:=hid k;clear j k;by_cases b:bN ws=0
 .obtain ⟨g,p,rfl,a⟩:=q.out b;have m:=hid a;have i:=hid b;rw[b];clear a b;go_wp2;go_ret2;exact⟨⟨λ_=>⟨g,p,rfl,m.out⟩,λh=>absurd i.out h⟩,f⟩
 obtain rfl:=o.out b;have i:=hid b;clear b;go_wp2;go_ret2;exact⟨⟨λh=>absurd h i.out,λ_=>rfl⟩,f⟩
noncomputable def ud (ws:List Nat):Value:=if bN ws=0 then jX ((coL ws).map au) else .tuple #[gy 0 0 0,.int .i64 (bN ws)]
theorem ww(A:Option Addr)(ws:List Nat)(c n:Nat)(w:World)(hn:ws.length=n)(hm:n<=9223372036854775807)(hc:n<=c)(E:RdW w w.heap.size A ws)(ho:∀x∈ws,x<18446744073709551616):
 Calls prog 29 #[.slice A n c] w λe w'=>e=.returned (ud ws)/\Below w.heap.size w w':=by
 subst hn;have HR:=hid E;have i:=hid (λW (h:RdW W W.heap.size A ws)=>nG A ws c ws.length W rfl hm hc h ho);unfold H6 at i;by_cases j:bN ws=0
 .have z:ud ws=jX ((coL ws).map au):=by unfold ud;rw[if_pos j]
  have U:(coL ws).length<=4000:=by obtain⟨M,hl⟩:=gc j;obtain⟨t,u⟩:=mm hl;have Q:=jS (oI ho) (u.all ho);have h2:=Q.2.2.1;have hb:=(aa _).1 M;rw[gR] at h2;unfold coL;rw[if_pos j,kq0];omega
  obtain⟨a,hO⟩:=xq (coL ws);rw[hO] at z U i;rw[j] at i;have Z:=hid z;clear j z ho E hO;go_enter func29,ntmps29;go_wp2_with fail;refine (i.out _ ((HR.out.alloc (kqa _) _).more (by simp))).mono ?_;rintro e w1 ⟨⟨L,B,d,vx,rfl,u,G,y,o,-⟩,b⟩;rw[kqm] at b;have D:=Bx.of_new b;have m:=hid (aw b);obtain⟨g,cx,rfl,-⟩:=o trivial;have X:=hid G;have O:=hid (λx o=>(y x o).2);have Eq:L.length=a.length:=by rw[<-u,kzo]
  have K:chA L=a.map au:=by rw[<-u,List.map_map];rfl
  have T:Hid (∀x∈L,x.l.length<=maxLen):=hid λx o=>by
   have:=(y x o).1;unfold maxLen;omega
  have HS:=hid (λW Q h2=>sum_n B L d L.length W rfl (by omega) Q h2);rw[K] at HS;obtain⟨s,M⟩:=xq (smS (a.map au));obtain⟨f,hf⟩:=xq (smF (a.map au));obtain⟨q,hq⟩:=xq (smN (a.map au));obtain⟨r,E⟩:=xq (dp (a.map au));have HE:=hid (show jX (a.map au)=.tuple #[.agg #[.int .i64 s,.int .i64 f,.int .i64 q],.int .i64 r] by rw[jX,gy,M,hf,hq,E]);have Y:=D.lt;have B1:=hid D;obtain⟨H,J,I,P,R,N,S⟩:=D.c3;clear M hf hq E o G y u b Eq K D;go_wp2_with fail;refine (HS.out w1 (show RdC _ _ _ _ from X.out) (λx o=>⟨T.out x o,O.out x o⟩)).mono ?_;rintro e w2 ⟨rfl,C⟩;rw[HE.out];have V:=hid (m.out.trans (C.mono m.out.size));have b2:=B1.out.up C Y;clear H J I P R N S;obtain⟨H,J,I,P,R,N,S⟩:=b2.c3;have C2:=hid b2;clear C b2;go_wp2_with fail;refine kqo (v:=.tuple #[gy s f q,.int .i64 r]) (by simp[results,results29,go_sem,gy,H,J,I]) rfl ⟨by rw[Z.out,HE.out];rfl,?_⟩;exact ((V.out.setCell (kqa _) _).setCell (kqa _) _).setCell (kqa _) _
 have z:ud ws=.tuple #[gy 0 0 0,.int .i64 (bN ws)]:=by unfold ud;rw[if_neg j]
 obtain⟨k,p⟩:=xq (bN ws);rw[p] at i z j;have hne:(k != 0)=true:=by rw[kqv];exact j
 have dn0:decide (k=0)=false:=by rw[kqc];exact j
 have Z:=hid z;clear p z ho E;go_enter func29,ntmps29;go_wp2_with fail;refine (i.out _ ((HR.out.alloc (kqa _) _).more (by simp))).mono ?_;rintro e w1 ⟨⟨L,B,d,vx,rfl,u,-,-,-,F⟩,b⟩;rw[kqm] at b;have D:=Bx.of_new b;have m:=hid (aw b);rw[F j];obtain⟨H,J,I,P,R,N,S⟩:=D.c3;clear F j u b;go_wp2_with fail;refine kqo (v:=.tuple #[gy 0 0 0,.int .i64 k]) (by simp[results,results29,go_sem,gy,H,J,I]) rfl ⟨by rw[Z.out],?_⟩;exact ((m.out.setCell (kqa _) _).setCell (kqa _) _).setCell (kqa _) _
def mD (ws:List Nat) (t:Nat):List Nat:=spL ws.length t++(spL ws.length t++ws.drop 16)
theorem lj(h:16<=ws.length):(mD ws t).length=ws.length:=by unfold mD;rw[kqu,kqu,qJ,kzv];omega
theorem Hw{α:Type}{cur S:List α}(hS:S.length=8)(hn:16<=n):(splice (splice cur 0 S) 8 S).take n=S++(S++(cur.take n).drop 16):=by
 have a:splice cur 0 S=S++cur.drop 8:=by unfold splice;rw[List.take_zero,kz1,hS]
 have b:splice (splice cur 0 S) 8 S=S++(S++cur.drop 16):=by rw[a];unfold splice;rw[kz9 (by omega),kq5 (by omega),hS,kvh,kjf (by omega),kz1,hS,kxl]
 rw[b,List.take_append,kq5 (by omega),hS,List.take_append,kq5 (by omega),hS,List.drop_take];congr 3
theorem yS(ws:List Nat)(k:Nat):(ws.drop k).flatMap ag=(ws.flatMap ag).drop k:=pJ ag bt ws k
theorem nj{H sz g c:Nat}{e:TypeId}{xs:List Value}(h:w.ownsRow H e sz (.slice (some ⟨g,0,none⟩) n c) n xs):∃a:List Value,w.heap[g]? = some (.cells a.toArray e (0,0))/\H<=g/\n<=c/\c<=maxLen/\a.length=c*sz/\a.take (n*sz)=xs:=by
 rcases h.2 with⟨b,-⟩|⟨g',cap,a,b,f,k,l,i,j,d⟩
 .cases b
 simp only[Value.slice.injEq,Option.some.injEq,Addr.mk.injEq,and_true,true_and] at b;obtain⟨rfl,rfl⟩:=b;exact⟨a.toList,by rw[k],f,l,i,by rw[kku,j],d⟩
theorem nt{P:Program}{ops:Array Oper}{rest:List Oper}{a:Act}{Q:Exit->Act->World->Prop}{dst:Option Tmp}{type:TypeId}{pos:String}{after:Array Edge}{guard:Option (Nat × Bool)}{xs:Array Operand}{ts:Array TypeId}(h:wpList P ops Q ({ dst:=dst,op:=.call { callee:=.builtin .copy,args:=xs,argTypes:=ts },type:=type,pos:=pos,after:=after,guard:=guard }::rest) a w):wpList P ops Q ({ dst:=dst,op:=.call { callee:=.builtin .copy,args:=xs,argTypes:=ts },type:=type,pos:=pos,after:=after,guard:=guard }::rest) a w:=h
theorem gi(b o j:Nat):(⟨b,o,none⟩:Addr).add j=⟨b,o+j,none⟩:=by unfold Addr.add;split<;>simp_all
theorem qN(A:Option Addr)(ws:List Nat)(c n t H:Nat)(w:World)(hn:ws.length=n)(h0:16<n)(hm:n<=1000000)(ht:t<=1000000)(hr:RdW w H A ws)(hH:H<=w.heap.size):
 Calls prog 61 #[.slice A n c,.int .i64 (t:Int)] w λe w'=>xB w (mD ws t) e w':=by
 have HR:=hid (hr.more hH);have HN:=hid hn;have Z:=hid (io ws);have D:=hid (λW=>me n t W (by omega) (by omega));have r:Hid ((mD ws t).length=n):=hid (by rw[lj (by omega),hn]);have N:Hid ((mD ws t).flatMap ag=(spL n t).flatMap ag++((spL n t).flatMap ag++(ws.flatMap ag).drop 16)):=hid (by unfold mD;rw[hn,kxk,kxk,yS]);have u:=hid (dP qI (spL n t));have q:((spL n t).flatMap ag).length=8:=by rw[io];exact qJ n t
 obtain⟨S,hS⟩:=xq ((spL n t).flatMap ag);rw[hS] at D N u q;have d:=hid q;obtain⟨b,off,rfl,T,-⟩:=RdW.at_ hr (show 0<ws.length by omega);clear hr hH hn T hS q;obtain⟨i0,hi,E,o,M⟩:=kzw mG;have HI:=hid hi;have Ka:=hid E;have Y:=hid o;have R:=hid M;clear hi E o M;go_enter func61,ntmps61;go_wp2_with fail;refine (D.out w).mono ?_;rintro e f ⟨⟨AS,cS,rfl,a⟩,m⟩;have Q:=hid m;obtain⟨bS,oS,rfl,V,G⟩:=(Rd.of_own a) (λh=>by have:=d.out;rw[h] at this;cases this);have L:Hid (∀W,Below f.heap.size f W->∀j v,S[j]? = some v->W.cell? ((⟨bS,oS,none⟩:Addr).add j)=some v):=hid λW T j v hv=>by
  obtain⟨hj,rfl⟩:=kzb.1 hv;rw[gi];exact (T.cell (p:=⟨bS,oS+j,none⟩) V).trans (G j hj)
 have z:(prog.info? 53).map (·.size)=some 1:=by kernel_rfl
 have P:=hid z;have Eq:=hid (HR.out.up m m.size);have o:=m.size;clear m a G z;go_wp2_with (first
  | (at_builtin;refine bJ _ (by rfl) _ _ 22 rfl f.heap.size 53 i0 _ 1 8 underlying22 HI.out Ka.out Y.out R.out rfl (by decide) (.slice (some ⟨f.heap.size,0,none⟩) 0 0) 0 [] (by rfl) (il f _ _ _ (kqa _)) f.heap.size (some ⟨b,off,none⟩) n _ (ws.flatMap ag) (by rfl) (by rw[Z.out,HN.out];omega) (Rd.alloc Eq.out (kqa _) _) (dP qI _) (by unfold maxLen;omega) (by omega) (by simp) ?_;intro v1 wa a I;have F:=cB ((kqk f.heap.size f).alloc (kqa _) _) (by simp) (il f f.heap.size 53 1 (kqa _)) I;simp only[kxd,kz1] at a;obtain⟨g,c1,rfl⟩:=fV a (by omega);have HOWN:=hid a;have B:=hid F;obtain⟨i,K,s,Kd,X,x,l⟩:=nj a;have HG:=hid K;have k:=hid x;have Kb:=hid l;clear a F I K x l)
  | ((with_reducible refine nt ?_);refine wpList_copy_splice rfl _ _ 22 22 rfl 53 underlying22 P.out _ _ _ _ _ _ rfl rfl g 0 i 53 HG.out S (by rw[d.out];exact (kxc (by omega)).symm) (λ_=>⟨rfl,_,rfl,L.out _ B.out⟩) (by rw[d.out,k.out];omega) u.out f.heap.size f B.out s ?_;intro w2 Ke O;have J:=hid O;clear O)
  | ((with_reducible refine nt ?_);refine wpList_copy_splice rfl _ _ 22 22 rfl 53 underlying22 P.out _ _ _ _ _ _ rfl rfl g 8 (splice i 0 S) 53 Ke.out S (by rw[d.out];exact (kxc (by omega)).symm) (λ_=>⟨rfl,_,rfl,L.out _ J.out⟩) (by rw[length_splice _ _ _ (by rw[d.out,k.out];omega),d.out,k.out];omega) u.out f.heap.size f J.out s ?_;intro w3 Kf C;have Kc:=hid C;clear C))
 go_ret;have y:(splice i 0 S).length=i.length:=length_splice _ _ _ (by rw[d.out,k.out];omega);have U:(splice (splice i 0 S) 8 S).length=i.length:=by rw[length_splice _ _ _ (by rw[y,d.out,k.out];omega),y]
 refine⟨g,c1,by rw[r.out];rfl,?_,Q.out.trans (Kc.out.mono o)⟩;rw[r.out];refine⟨by rw[io,r.out,kxm],.inr ⟨g,c1,_,rfl,kz3 o s,Kf.out,Kd,X,?_,?_⟩⟩
 .rw[kjw,U,k.out]
 have l:=Kb.out;rw[kxm] at l |-;rw[Hw d.out (by omega),N.out,l]
def oU:List Nat:=mD nd 0
def b35L:List Nat:=np 256 [[1]] [obj4 false] []
def tC:List Nat:=mD b35L 1
def j35L:List Nat:=np 256 [[1]] [] []
def vJ:List Nat:=mD j35L 1
theorem lR:oU.length=256:=by unfold oU;rw[lj (by rw[jU];omega),jU]
theorem s6:b35L.length=256:=by decide +kernel
theorem tg:j35L.length=256:=by decide +kernel
theorem qm:tC.length=256:=by unfold tC;rw[lj (by rw[s6];omega),s6]
theorem zM:vJ.length=256:=by unfold vJ;rw[lj (by rw[tg];omega),tg]
theorem Gq:∀x∈oU,x<18446744073709551616:=by decide +kernel
theorem Db:∀x∈tC,x<18446744073709551616:=by decide +kernel
theorem zy:lay oU=true:=by decide +kernel
theorem tW:lay tC=true:=by decide +kernel
theorem Hb:(pu 20 12 (gA oU)).map (λr=>(r.1,r.2.2))=some (0,oU):=by decide +kernel
theorem GJ:(pu 20 12 (gA tC)).map (λr=>(r.1,r.2.2.take 130))=some (0,vJ.take 130):=by decide +kernel
theorem B4(h:lay ws=true):bN ws=0:=by obtain⟨t,h⟩:=mm h;exact li h
theorem Gk{y:List Nat}{f k:Nat}{g:List Nat->List Nat}(hl:lay ws=true)(ho:∀v∈ws,v<18446744073709551616)(h:(pu f k (gA ws)).map (λr=>(r.1,g r.2.2))=some (0,y)):g (cpZ ws)=y:=by
 obtain⟨t,c⟩:=mm hl;cases a:pu f k (gA ws) with
 | none=>rw[a] at h;cases h
 | some r =>rw[a] at h;simp only[kzy,Option.some.injEq,Prod.mk.injEq] at h;have b:=CM (oI ho) a;have d:=(c.all ho).symm.trans b;clear b a;subst d;dsimp only at h;exact h.2
theorem f35_cp:cpZ oU=oU:=Gk (g:=λx=>x) zy Gq Hb
theorem BU:(cpZ tC).take 130=vJ.take 130/\(cpZ tC).length=256:=by obtain⟨t,h⟩:=mm tW;exact⟨Gk (g:=λx=>x.take 130) tW Db GJ,(zg h Db).trans qm⟩
theorem Ho:∀k,k<1->fits 256 [[1]] [obj4 false] k:=by decide +kernel
theorem AI(w:World):Calls prog 40 #[] w λe w'=>xB w oU e w':=by have d:=hid (λW=>ui none none none [] [] [] 0 0 0 256 W.heap.size W (by omega) (by omega) RdT.nil_ (show (0:Nat)<=8 by decide) Rd.nil_ Rd.nil_ (show (0:Nat)<=16 by decide) (kqa _) (show (0:Nat)<=2048 by decide) (λk o=>absurd o (by simp)) (λk o=>absurd o (by simp)));have j:Hid (np 256 (List.map Ty.l []) [] []=nd):=hid rfl;rw[j.out] at d;unfold xB at d;rw[jU] at d;have g:=hid (λA c W (h:RdW W W.heap.size A nd)=>qN A nd c 256 0 W.heap.size W jU (by omega) (by omega) (by omega) h (kqa _));rw[show mD nd 0=oU from rfl] at g;unfold xB at g |-;rw[lR] at g |-;simp only[kq9] at g;generalize oU=F at g |-;generalize nd=F0 at d g;clear j;go_enter func40,ntmps40;go_wp2_with fail;refine (d.out w).mono ?_;rintro e w1 ⟨g1,c1,rfl,b,i⟩;have f:=hid i;have q:=hid (Rd.of_own b);clear b i;go_wp2_with fail;refine (g.out _ _ _ q.out).mono ?_;rintro e w2 ⟨s,r,rfl,a,m⟩;have p:=hid (f.out.trans (m.mono f.out.size));have n:=hid (ao a f.out.size);clear a m;go_wp2;go_ret;exact⟨s,r,rfl,n.out,p.out⟩
theorem AN(w:World):RdT ((w.alloc (.cells #[.int .u8 1] 5)).alloc (.cells #[.slice (some ⟨w.heap.size,0,none⟩) 1 1] 113)) (w.heap.size+1+1) (some ⟨w.heap.size+1,0,none⟩) [⟨some ⟨w.heap.size,0,none⟩,1,[1]⟩]:=by have c:=(Bx.new w 5 #[.int .u8 1]).alloc (.cells #[.slice (some ⟨w.heap.size,0,none⟩) 1 1] 113);have a:=Bx.new (w.alloc (.cells #[.int .u8 1] 5)) 113 #[.slice (some ⟨w.heap.size,0,none⟩) 1 1];simp only[kqm] at a;refine⟨Rd.of_bx a (by omega),λx b=>?_⟩;rw[kq1] at b;subst b;exact⟨Rd.of_bx c (by omega),show (1:Nat)<=8 by decide,show dN [1]=true by decide⟩
theorem oq(w:World):Calls prog 23 #[] w λe w'=>e=.returned (.bool true)/\Below w.heap.size w w':=by
 have q:=hid (λW=>AI W);unfold xB at q;rw[lR] at q;have M:=hid (λA c W (hc:256<=c) (h:RdW W W.heap.size A oU)=>qM A oU c 256 W lR (by omega) hc h Gq);have r:=hid (λA c W (hc:256<=c) (h:RdW W W.heap.size A tC)=>qM A tC c 256 W qm (by omega) hc h Db);unfold Hr at M r;rw[B4 zy,f35_cp,lR] at M;rw[B4 tW,qm] at r;have Kb:=hid (λ(W X:World) (hT:RdT X X.heap.size (some ⟨W.heap.size+1,0,none⟩) [⟨some ⟨W.heap.size,0,none⟩,1,[1]⟩]) (hB:RdB X X.heap.size (some ⟨W.heap.size+1+1,0,none⟩) [obj4 false])=>ui (some ⟨W.heap.size+1,0,none⟩) (some ⟨W.heap.size+1+1,0,none⟩) none [⟨some ⟨W.heap.size,0,none⟩,1,[1]⟩] [obj4 false] [] 1 1 0 256 X.heap.size X (by omega) (by omega) hT (show (1:Nat)<=8 by decide) hB Rd.nil_ (show (0:Nat)<=16 by decide) (kqa _) (show (1:Nat)<=2048 by decide) (λk P=>Ho k P) (λk P=>absurd P (by simp)))
 have T:=hid (λ(W X:World) (hT:RdT X X.heap.size (some ⟨W.heap.size+1,0,none⟩) [⟨some ⟨W.heap.size,0,none⟩,1,[1]⟩])=>ui (some ⟨W.heap.size+1,0,none⟩) none none [⟨some ⟨W.heap.size,0,none⟩,1,[1]⟩] [] [] 1 0 0 256 X.heap.size X (by omega) (by omega) hT (show (1:Nat)<=8 by decide) Rd.nil_ Rd.nil_ (show (0:Nat)<=16 by decide) (kqa _) (show (0:Nat)<=2048 by decide) (λk P=>absurd P (by simp)) (λk P=>absurd P (by simp)));have x:=hid (λA c W (h:RdW W W.heap.size A b35L)=>qN A b35L c 256 1 W.heap.size W s6 (by omega) (by omega) (by omega) h (kqa _));have y:=hid (λA c W (h:RdW W W.heap.size A j35L)=>qN A j35L c 256 1 W.heap.size W tg (by omega) (by omega) (by omega) h (kqa _));simp only[kxj,List.map_nil] at Kb T;rw[show mD b35L 1=tC from rfl] at x;rw[show mD j35L 1=vJ from rfl] at y;unfold xB at Kb T x y;rw[qm] at x;rw[zM] at y;have Eq:=hid (λA c B d W (h1:RdW W W.heap.size A oU) (h2:RdW W W.heap.size B oU)=>nW A B oU oU 256 256 c d W.heap.size W lR lR (by omega) h1 h2 (kqa _));rw[show decide (oU=oU)=true by simp] at Eq
 have V:=hid (λA c B d W (h1:RdW W W.heap.size A ((cpZ tC).take 130)) (h2:RdW W W.heap.size B (vJ.take 130))=>nW A B ((cpZ tC).take 130) (vJ.take 130) 130 130 c d W.heap.size W (by rw[kq3,BU.2];rfl) (by rw[kq3,zM];rfl) (by omega) h1 h2 (kqa _));rw[BU.1,show decide (vJ.take 130=vJ.take 130)=true by simp] at V;have Q:Hid (∀W B A,RdW W B A (cpZ tC)->RdW W B A (vJ.take 130)):=hid λW B A h=>by
  have:=h.take_ 130;rw[<-l6 ag bt,BU.1] at this;exact this
 have Ka:Hid (∀W B A,RdW W B A vJ->RdW W B A (vJ.take 130)):=hid λW B A h=>by
  have:=h.take_ 130;rw[<-l6 ag bt] at this;exact this
 generalize oU=F at q M Eq;generalize vJ.take 130=K3 at V Q Ka;generalize cpZ tC=Z at r Q;generalize vJ=K5 at y Ka;generalize tC=CL at x r;have Kf:∀W:World,((W.alloc (.cells #[.int .u8 1] 5)).alloc (.cells #[.slice (some ⟨W.heap.size,0,none⟩) 1 1] 113)).heap.size=W.heap.size+1+1:=λW=>by simp
 have Kl:∀W:World,(((W.alloc (.cells #[.int .u8 1] 5)).alloc (.cells #[.slice (some ⟨W.heap.size,0,none⟩) 1 1] 113)).alloc (.cells #[.int .i64 0,.int .i64 4,.int .i64 1,.int .i64 0,.bool false,.int .u64 0] 55)).heap.size=W.heap.size+1+1+1:=λW=>by simp
 have Ke:=hid Kf;have Ks:=hid Kl;clear Kf Kl;go_enter func23,ntmps23;go_wp2_with fail;refine (q.out w).mono ?_;rintro e w1 ⟨g1,c1,rfl,m,Kj⟩;have Kc:=hid Kj;have R:=hid (Rd.of_own m);have Lg:=cH m;clear m Kj;go_wp2_with fail;refine (M.out _ _ _ Lg R.out).mono ?_;rintro e f ⟨⟨hv,-⟩,Kh⟩;obtain⟨g2,c2,rfl,v⟩:=hv trivial;have Kp:=hid (Kc.out.trans (Kh.mono Kc.out.size));have a:=hid (Rd.of_own v);clear hv v Kh;go_wp2_with fail;have Y:=(AN f).below (((kqk (f.heap.size+1+1) ((f.alloc (.cells #[.int .u8 1] 5)).alloc (.cells #[.slice (some ⟨f.heap.size,0,none⟩) 1 1] 113))).alloc (by simp) (.cells #[.int .i64 0,.int .i64 4,.int .i64 1,.int .i64 0,.bool false,.int .u64 0] 55)));have x3:=Bx.new ((f.alloc (.cells #[.int .u8 1] 5)).alloc (.cells #[.slice (some ⟨f.heap.size,0,none⟩) 1 1] 113)) 55 #[.int .i64 0,.int .i64 4,.int .i64 1,.int .i64 0,.bool false,.int .u64 0];have n:=(((kqk f.heap.size f).alloc (kqa _) (.cells #[.int .u8 1] 5)).alloc (by simp) (.cells #[.slice (some ⟨f.heap.size,0,none⟩) 1 1] 113)).alloc (by simp;omega) (.cells #[.int .i64 0,.int .i64 4,.int .i64 1,.int .i64 0,.bool false,.int .u64 0] 55);have C:=Ks.out f;rw[Ke.out f] at x3
 obtain⟨E,t⟩:∃E,((f.alloc (.cells #[.int .u8 1] 5)).alloc (.cells #[.slice (some ⟨f.heap.size,0,none⟩) 1 1] 113)).alloc (.cells #[.int .i64 0,.int .i64 4,.int .i64 1,.int .i64 0,.bool false,.int .u64 0] 55)=E:=⟨_,rfl⟩;rw[t] at Y x3 n C |-;have T3:=Y.more (show f.heap.size+1+1<=E.heap.size by omega);have Km:=hid (Kp.out.trans (n.mono Kp.out.size));have D:=hid (a.out.up n n.size);refine (Kb.out f E T3 (show Rd _ _ _ _ from Rd.of_bx x3 x3.lt)).mono ?_;rintro e w4 ⟨g4,c4,rfl,s,J⟩;have Kd:=hid (Km.out.trans (J.mono Km.out.size));have Kz:=hid (D.out.up J J.size);have Le:=hid (Rd.of_own s);clear s J Y x3 n C T3 t;go_wp2_with fail;refine (x.out _ _ _ Le.out).mono ?_;rintro e w5 ⟨g5,c5,rfl,i,H⟩;have Kg:=hid (Kd.out.trans (H.mono Kd.out.size));have Ld:=hid (Kz.out.up H H.size);have Kx:=hid (Rd.of_own i);have Lf:=cH i;clear i H;go_wp2_with fail;refine (r.out _ _ _ Lf Kx.out).mono ?_;rintro e I ⟨⟨hv,-⟩,G⟩;obtain⟨g6,c6,rfl,j⟩:=hv trivial;have Kn:=hid (Kg.out.trans (G.mono Kg.out.size));have Ku:=hid (Ld.out.up G G.size);have Lc:=hid (Q.out _ _ _ (Rd.of_own j));have hc6:=cH j;clear hv j G;go_wp2_with fail;have Y:=AN I
 have n:=((kqk I.heap.size I).alloc (kqa _) (.cells #[.int .u8 1] 5)).alloc (by simp) (.cells #[.slice (some ⟨I.heap.size,0,none⟩) 1 1] 113);have C:=Ke.out I;obtain⟨E,t⟩:∃E,(I.alloc (.cells #[.int .u8 1] 5)).alloc (.cells #[.slice (some ⟨I.heap.size,0,none⟩) 1 1] 113)=E:=⟨_,rfl⟩;rw[t] at Y n C |-;have T3:=Y.more (show I.heap.size+1+1<=E.heap.size by omega);have Ko:=hid (Kn.out.trans (n.mono Kn.out.size));have Lb:=hid (Ku.out.up n n.size);have Kt:=hid (Lc.out.up n n.size);refine (T.out I E T3).mono ?_;rintro e w8 ⟨g8,c8,rfl,z,p⟩;have Kk:=hid (Ko.out.trans (p.mono Ko.out.size));have La:=hid (Lb.out.up p p.size);have Lh:=hid (Kt.out.up p p.size);have Kw:=hid (Rd.of_own z);clear z p Y n C T3 t;go_wp2_with fail;refine (y.out _ _ _ Kw.out).mono ?_;rintro e U ⟨g7,c7,rfl,l,o⟩;have Ki:=hid (Kk.out.trans (o.mono Kk.out.size));have Kv:=hid (La.out.up o o.size);have Ky:=hid (Lh.out.up o o.size);have Kr:=hid (Ka.out _ _ _ (Rd.of_own l));have hc7:=cH l;clear l o;go_upto_region 5 with (fail)
 refine nK (S:=λX:World=>Below U.heap.size U X) ((0,0,0)::(0,1,0)::(0,2,0)::(0,3,0)::(1,4,0)::(1,5,0)::(0,6,0)::(0,7,0)::(0,8,0)::(0,9,0)::(0,10,0)::(0,11,0)::(0,12,0)::(0,13,0)::(0,17,0)::(0,18,0)::(1,14,0)::(1,15,0)::(0,16,0)::(1,19,0)::(0,20,0)::(0,21,0)::[]) (.one _ true (none)::.one _ true (none)::.one _ true (none)::.one _ true (some (some 29,true))::.one _ false (some (some 29,true))::.one _ false (some (some 29,true))::.one _ true (none)::.one _ true (none)::.one _ true (some (some 34,true))::.one _ true (some (some 34,true))::.one _ true (none)::.one _ true (none)::.one _ true (some (some 38,true))::.one _ true (some (some 38,true))::.one _ true (some (some 38,true))::.one _ true (some (some 38,true))::.one _ false (some (some 38,true))::.one _ false (some (some 38,true))::.one _ true (some (some 38,true))::.one _ false (some (some 38,true))::.one _ true (none)::.one _ true (none)::[]) (by kernel_rfl) (by kernel_rfl) (by decide) (by show lT _ _ (((0,0,0)::(0,1,0)::(0,2,0)::(0,3,0)::(1,4,0)::(1,5,0)::(0,6,0)::(0,7,0)::(0,8,0)::(0,9,0)::[])++(((0,10,0)::(0,11,0)::(0,12,0)::(0,13,0)::(0,17,0)::(0,18,0)::(1,14,0)::(1,15,0)::(0,16,0)::(1,19,0)::[])++(((0,20,0)::(0,21,0)::[])))) _=true;refine nI _ (by as_aux_lemma=>kernel_rfl) ?_;refine nI _ (by as_aux_lemma=>kernel_rfl) ?_;(as_aux_lemma=>kernel_rfl)) (by rfl) (λ_ _ d _ _ h=>by cases d<;>exact h) (kqk _ _).drew ?_
 have L:=hid ((kqk U.heap.size U).drew);obtain⟨X0,Kq⟩:=xq U.drew;rw[Kq] at L |-;clear Kq;have hne:Nonempty (SW (λX:World=>Below U.heap.size U X)):=⟨⟨X0,L.out⟩⟩
 iterate 4 (first | (refine eO (by rfl) ?_;(try simp only[Act.put,kqb,kqg,kqf])) | (refine iP (by rfl) ?_;intro K b;go_big_quiet_op;go_big_quiet_on))
 refine ti (by rfl) ?_;intro K b;go_big_op;refine (q.out X0).mono ?_;rintro e X1 ⟨g,d,rfl,O,N⟩;have u:=hid (L.out.trans (N.mono L.out.size));have R:=hid (Rd.of_own O);refine b _ _ u.out ?_;clear b K N O;(try simp only[Act.put,kqb,kqg,kqf]);refine ti (by rfl) ?_;intro K b;go_big_op;refine (Eq.out _ _ _ _ _ (Kv.out.up u.out u.out.size) R.out).mono ?_;rintro e X2 ⟨rfl,N⟩;have a:=hid (u.out.trans (N.mono u.out.size));refine b _ _ a.out ?_;clear b K N;(try simp only[Act.put,kqb,kqg,kqf])
 iterate 10 (first | (refine eO (by rfl) ?_;(try simp only[Act.put,kqb,kqg,kqf])) | (refine iP (by rfl) ?_;intro K b;go_big_quiet_op;go_big_quiet_on))
 (first | (refine eO (by rfl) ?_;(try simp only[Act.put,kqb,kqg,kqf])) | (refine ti (by rfl) ?_;intro K b;go_big_op;refine b _ _ a.out ?_;clear b K;(try simp only[Act.put,kqb,kqg,kqf])))
 (first | (refine eO (by rfl) ?_;(try simp only[Act.put,kqb,kqg,kqf])) | (refine ti (by rfl) ?_;intro K b;go_big_op;refine b _ _ a.out ?_;clear b K;(try simp only[Act.put,kqb,kqg,kqf])))
 iterate 1 (first | (refine eO (by rfl) ?_;(try simp only[Act.put,kqb,kqg,kqf])) | (refine iP (by rfl) ?_;intro K b;go_big_quiet_op;go_big_quiet_on))
 refine ti (by rfl) ?_;intro K b;go_big_op;refine (V.out _ _ _ _ _ (Ky.out.up a.out a.out.size) (Kr.out.up a.out a.out.size)).mono ?_;rintro e X3 ⟨rfl,N⟩;have D:=hid (a.out.trans (N.mono a.out.size));refine b _ _ D.out ?_;clear b K N;(try simp only[Act.put,kqb,kqg,kqf])
 iterate 2 (first | (refine eO (by rfl) ?_;(try simp only[Act.put,kqb,kqg,kqf])) | (refine iP (by rfl) ?_;intro K b;go_big_quiet_op;go_big_quiet_on))
 refine Af ?_;go_wp2;go_ret;exact⟨rfl,Ki.out.trans (D.out.mono Ki.out.size)⟩
end Go.Proofs.YtpcajamacpbjcaaGreat
