/- Texts laid together: CoW CoE Form Al35. -/
import Derived.Test.YtpcajamacpbjcaaGreatZKLy2
import Derived.Test.YtpcajamacpbjcaaGreatZKCp2
import Derived.Test.YtpcajamacpbjcaaGreatZKNx
import Derived.Test.YtpcajamacpbjcaaGreatZKStg1
import Derived.Test.YtpcajamacpbjcaaGreatZKEff
import Derived.Test.YtpcajamacpbjcaaGreatZKSup
import Derived.Laws.CopyOwn
import Derived.Test.YtpcajamacpbjcaaGreatZKRun
import Derived.Test.YtpcajamacpbjcaaGreatZKStg3
import Derived.Test.YtpcajamacpbjcaaGreatZSameW
import Derived.Test.YtpcajamacpbjcaaGreatZKImage
import Derived.Test.YtpcajamacpbjcaaGreatZKR19
set_option maxHeartbeats 16000000
set_option maxRecDepth 100000
set_option linter.all false
namespace Go.Proofs.YtpcajamacpbjcaaGreat
open Lib (hid)
open Go.RowKit
variable {ws:List Nat}{n t:Nat}{w:World}
open Go.Proofs.Tryz
noncomputable def coL (ws:List Nat):List (List En):=if cc ws=0 then [⟨16,1⟩]::(rsE (gG ws)).2.1 else []
theorem iC(h:cc ws=0):aj (ws.length:Int)=true/\lay ws=true:=by
 unfold cc at h;cases a:aj (ws.length:Int)
 .rw[a] at h;cases h
 rw[a,if_pos rfl] at h;cases b:lay ws
 .rw[b] at h;cases h
 exact⟨rfl,rfl⟩
theorem nC(h:Lay ws t):cc ws=0:=by unfold cc;rw[qm h.ty,h.lay];rfl
theorem Lay.all(h:Lay ws t)(ho:∀v∈ws,v<18446744073709551616):fR (gG ws)=(0,(rsE (gG ws)).2.1,cpZ ws):=by unfold fR;rw[if_pos h.first.2.1];have:=(h.run ho).all;rw[this];rfl
theorem tF(h:Lay ws t)(ho:∀v∈ws,v<18446744073709551616):(cpZ ws).length=ws.length:=(h.desc ho).1.len
theorem qP(A:Option Addr)(ws:List Nat)(c n:Nat)(w:World)(hn:ws.length=n)(hm:n<=9223372036854775807)(hc:n<=c)(hr:RdW w w.heap.size A ws)(ho:∀x∈ws,x<18446744073709551616):
 Calls prog 14 #[.slice A n c] w λe w'=>ii w.heap.size (cc ws) (if cc ws=0 then [⟨16,1⟩] else []) e w'/\Below w.heap.size w w':=by
 have g:=hid (x9 A ws c n w hn hm hc hr ho);obtain⟨r,b⟩:=xq (cc ws);rw[b] at g |-;clear hr ho hc hm hn b;by_cases d:r=0
 .subst d;rw[if_pos rfl];go_enter func14,ntmps14;go_wp2_with fail;refine g.out.mono ?_;rintro e f ⟨rfl,a⟩;have h:=hid (dh (n:=1) (sz:=2) f 89 #[.int .i64 16,.int .u64 1] (kqd _) (by rfl) (by unfold maxLen;omega));have j:=hid (a.alloc a.size (.cells #[.int .i64 16,.int .u64 1] 89));have i:=a.size;go_wp2;go_ret2;exact⟨⟨some ⟨f.heap.size,0,none⟩,1,rfl,ao h.out i⟩,j.out⟩
 rw[if_neg d];have e1:(r != 0)=true:=by rw[kqv];exact d
 clear d;go_enter func14,ntmps14;go_wp2_with fail;refine g.out.mono ?_;rintro e f ⟨rfl,a⟩;go_wp2;go_ret2;exact⟨bL rfl rfl,a⟩
def CoRes (ws:List Nat) (H:Nat) (e:Ending) (w':World):Prop:=∃(L:List Ch) (B:Option Addr) (d:Nat) (vx:Value),e=.returned (.tuple #[.slice B L.length d,vx,.int .i64 (cc ws)])/\L.map Ch.l=coL ws/\RdC w' w'.heap.size B L/\(∀x∈L,x.l.length<=32/\RdE w' w'.heap.size x.A x.l) /\
 (cc ws=0->∃g c,vx=.slice (some ⟨g,0,none⟩) ws.length c/\w'.ownsRow H 53 1 (.slice (some ⟨g,0,none⟩) ws.length c) ws.length ((cpZ ws).flatMap ab))/\(cc ws≠0->vx=.slice none 0 0)
theorem Ch.one:∀x:Ch,∀u∈x.cells,u.oneCell'=true:=λx u a=>by unfold Ch.cells at a;rw[kq0] at a;subst a;rfl
theorem so(A:Option Addr)(ws:List Nat)(c n:Nat)(w:World)(hn:ws.length=n)(hm:n<=9223372036854775807)(hc:n<=c)(hr:RdW w w.heap.size A ws)(ho:∀x∈ws,x<18446744073709551616):
 Calls prog 50 #[.slice A n c] w λe w'=>CoRes ws w.heap.size e w'/\Below w.heap.size w w':=by
 subst hn;have D:=hid (qP A ws c ws.length w rfl hm hc hr ho);have HR:=hid hr;by_cases j:cc ws=0
 .obtain ⟨hs,hl⟩:=iC j;obtain⟨t,C⟩:=nu hl;rw[j,if_pos rfl] at D;unfold ii at D;have hlen:=(aa _).1 hs;have F:=hid (λB d W (h:RdW W W.heap.size A ws) (h2:RdE W W.heap.size B [⟨16,1⟩])=>Al A B ws [⟨16,1⟩] c d ws.length 1 W.heap.size W rfl rfl hs (by omega) (λe he=>by rw[kq0] at he;subst he;exact⟨by decide,by dsimp only;omega⟩) h h2 (kqd _));unfold OwnV at F;rw[show am ws [⟨16,1⟩]=gG ws from rfl,jq] at F;have q:=hid (λB d W (hd:ws.length<=d) (h:RdW W W.heap.size B (gG ws))=>Fk B (gG ws) d ws.length W (jq ws) hm hd h (pY ho));unfold Ei at q;rw[C.all ho,jq] at q;have o:(rsE (gG ws)).2.1.length<=3000:=by have h1:=mp (pY ho) (C.all ho);have:=h1.2.2.1;rw[jq] at this;omega
  have S:Hid (∀E∈(rsE (gG ws)).2.1,E.length<=32):=hid λE hE=>by
   obtain⟨i,Y,rfl⟩:=kqz hE;exact ((mp (pY ho) (C.all ho)).2.2.2.2.2 i Y).le
  have V:Hid (coL ws=[⟨16,1⟩]::(rsE (gG ws)).2.1):=hid (by unfold coL;rw[if_pos j]);have X:=hid j;obtain⟨z,hO⟩:=xq ((rsE (gG ws)).2.1);rw[hO] at q V o S;obtain⟨i0,Y,N,K,Q⟩:=kzv zU;have HI:=hid Y;have Jc:=hid N;have Jg:=hid K;have Jd:=hid Q;clear Y N K Q;clear hr ho j hs hl C hc hO;go_enter func50,ntmps50;go_wp2_with fail;refine D.out.mono ?_;rintro e w1 ⟨⟨I,P,rfl,a⟩,m⟩;have p:=hid m;have R:=hid (show RdE w1 w1.heap.size I [⟨16,1⟩] from Rd.of_own a);clear m a;go_wp2_with fail;refine (F.out _ _ _ (HR.out.up p.out p.out.size) R.out).mono ?_;rintro e w2 ⟨g2,c2,rfl,b,s⟩;have G:=hid (p.out.trans (s.mono p.out.size));have Z:=hid (R.out.up s s.size);have Ja:=hid (show RdW w2 w2.heap.size _ (gG ws) from Rd.of_own b);have u:=aZ b;clear s b;go_wp2_with fail;refine (q.out _ _ _ u Ja.out).mono ?_;rintro e g ⟨⟨L,B,d,vx,rfl,C,hC,hv,-⟩,k⟩;obtain⟨g3,c3,rfl,-,M⟩:=hv trivial;have T:=hid (G.out.trans (k.mono G.out.size));have Jf:=hid (Z.out.up k k.size);have Jb:=hid (ao M G.out.size);have Eq:=hid (show RdC g g.heap.size B L from Rd.of_own hC.1);have Je:=hid (λx v=>show RdE g g.heap.size x.A x.l from Rd.of_own (hC.2 x v));have hll:L.length<=3000:=by rw[<-C,kz3] at o;exact o
  have J:=hid C;clear k M hC C hv o u;go_wp2_with (at_builtin;refine bC _ (by rfl) _ _ 34 rfl g.heap.size 26 i0 _ 1 24 underlying34 HI.out Jc.out Jg.out Jd.out rfl (by decide) (.slice (some ⟨g.heap.size,0,none⟩) 1 1) 1 [.slice I 1 P] (by rfl) (dh (n:=1) (sz:=1) g 26 #[.slice I 1 P] (kqd _) (by rfl) (by unfold maxLen;omega)) g.heap.size B L.length d (L.flatMap Ch.cells) (by rfl) (by rw[cj Ch.cells 1 Ch.len]) (Rd.alloc Eq.out (kqd _) _) (dF Ch.one _) (by unfold maxLen;omega) (by omega) (by simp) ?_;intro v1 wa a U;have O:=co ((kql g.heap.size g).alloc (kqd _) _) (by simp) (dh (n:=1) (sz:=1) g 26 #[.slice I 1 P] (kqd _) (by rfl) (by unfold maxLen;omega)) U;have y:=hid a;have f:=hid O;clear a O U);obtain⟨Bv,dv,rfl⟩:=aJ y.out;go_ret3;refine⟨⟨⟨I,P,[⟨16,1⟩]⟩::L,Bv,dv,_,by rw[X.out,kq2,kjp];rfl,by rw[kxz,J.out,V.out],Rd.of_own y.out,λx v=>?_,λ_=>⟨g3,c3,rfl,ai Jb.out f.out (kqd _)⟩,λh=>absurd X.out h⟩,T.out.trans (f.out.mono T.out.size)⟩;rcases kqx.1 v with rfl|v
  .exact ⟨by show 1<=32;decide,Jf.out.up f.out f.out.size⟩
  exact⟨S.out _ (by rw[<-J.out];exact kju v),(Je.out x v).up f.out f.out.size⟩
 rw[if_neg j] at D;have V:Hid (coL ws=[]):=hid (by unfold coL;rw[if_neg j]);have X:=hid j;unfold ii at D;obtain⟨r,H⟩:=xq (cc ws);have HQ:=hid H;rw[H] at D j;have e1:(r != 0)=true:=by rw[kqv];exact j
 clear hr ho j H;go_enter func50,ntmps50;go_wp2_with fail;refine D.out.mono ?_;rintro e w1 ⟨⟨I,P,rfl,-⟩,m⟩;go_wp2;go_ret3;exact⟨⟨[],none,0,_,by rw[HQ.out];rfl,by rw[V.out];rfl,Rd.nil_,λx v=>absurd v (by simp),λh=>absurd h X.out,λ_=>rfl⟩,m⟩
def Ho (ws:List Nat) (H:Nat) (e:Ending) (w':World):Prop:=(cc ws=0->∃g c,e=.returned (.tuple #[.slice (some ⟨g,0,none⟩) ws.length c,.int .i64 0])/\w'.ownsRow H 53 1 (.slice (some ⟨g,0,none⟩) ws.length c) ws.length ((cpZ ws).flatMap ab))/\(cc ws≠0->e=.returned (.tuple #[.slice none 0 0,.int .i64 (cc ws)]))
theorem ph(A:Option Addr)(ws:List Nat)(c n:Nat)(w:World)(hn:ws.length=n)(hm:n<=9223372036854775807)(hc:n<=c)(hr:RdW w w.heap.size A ws)(ho:∀x∈ws,x<18446744073709551616):
 Calls prog 15 #[.slice A n c] w λe w'=>Ho ws w.heap.size e w'/\Below w.heap.size w w':=by
 subst hn;have k:=hid (so A ws c ws.length w rfl hm hc hr ho);unfold CoRes at k;clear hr ho hm hc;go_enter func15,ntmps15;go_wp2_with fail;refine k.out.mono ?_;rintro e w1 ⟨⟨L,B,d,vx,rfl,-,-,-,j,l⟩,f⟩;have o:=hid j;have q:=hid l;clear j l;by_cases b:cc ws=0
 .obtain ⟨g,m,rfl,a⟩:=o.out b;have p:=hid a;have i:=hid b;rw[b];clear a b;go_wp2;go_ret2;exact⟨⟨λ_=>⟨g,m,rfl,p.out⟩,λh=>absurd i.out h⟩,f⟩
 obtain rfl:=q.out b;have i:=hid b;clear b;go_wp2;go_ret2;exact⟨⟨λh=>absurd h i.out,λ_=>rfl⟩,f⟩
def ma (ws:List Nat) (t:Nat):List Nat:=spL ws.length t++(spL ws.length t++ws.drop 16)
theorem kL(h:16<=ws.length):(ma ws t).length=ws.length:=by unfold ma;rw[kqu,kqu,qx,kzk];omega
theorem Hp{α:Type}{cur S:List α}(hS:S.length=8)(hn:16<=n):(splice (splice cur 0 S) 8 S).take n=S++(S++(cur.take n).drop 16):=by
 have b:splice cur 0 S=S++cur.drop 8:=by unfold splice;rw[List.take_zero,kz2,hS]
 have a:splice (splice cur 0 S) 8 S=S++(S++cur.drop 16):=by rw[b];unfold splice;rw[kz9 (by omega),kq5 (by omega),hS,kk9,kjf (by omega),kz2,hS,kxm]
 rw[a,List.take_append,kq5 (by omega),hS,List.take_append,kq5 (by omega),hS,List.drop_take];congr 3
theorem hU(ws:List Nat)(k:Nat):(ws.drop k).flatMap ab=(ws.flatMap ab).drop k:=oN ab bh ws k
theorem ns{H sz g c:Nat}{e:TypeId}{xs:List Value}(h:w.ownsRow H e sz (.slice (some ⟨g,0,none⟩) n c) n xs):∃a:List Value,w.heap[g]? = some (.cells a.toArray e (0,0))/\H<=g/\n<=c/\c<=maxLen/\a.length=c*sz/\a.take (n*sz)=xs:=by
 rcases h.2 with⟨b,-⟩|⟨g',cap,a,b,d,l,j,k,f,i⟩
 .cases b
 simp only[Value.slice.injEq,Option.some.injEq,Addr.mk.injEq,and_true,true_and] at b;obtain⟨rfl,rfl⟩:=b;exact⟨a.toList,by rw[l],d,j,k,by rw[kkm,f],i⟩
theorem nL{P:Program}{ops:Array Oper}{rest:List Oper}{a:Act}{Q:Exit->Act->World->Prop}{dst:Option Tmp}{type:TypeId}{pos:String}{after:Array Edge}{guard:Option (Nat × Bool)}{xs:Array Operand}{ts:Array TypeId}(h:wpList P ops Q ({ dst:=dst,op:=.call { callee:=.builtin .copy,args:=xs,argTypes:=ts },type:=type,pos:=pos,after:=after,guard:=guard }::rest) a w):wpList P ops Q ({ dst:=dst,op:=.call { callee:=.builtin .copy,args:=xs,argTypes:=ts },type:=type,pos:=pos,after:=after,guard:=guard }::rest) a w:=h
theorem gh(b o j:Nat):(⟨b,o,none⟩:Addr).add j=⟨b,o+j,none⟩:=by unfold Addr.add;split<;>simp_all
theorem qb(A:Option Addr)(ws:List Nat)(c n t H:Nat)(w:World)(hn:ws.length=n)(h0:16<n)(hm:n<=1000000)(ht:t<=1000000)(hr:RdW w H A ws)(hH:H<=w.heap.size):
 Calls prog 61 #[.slice A n c,.int .i64 (t:Int)] w λe w'=>xT w (ma ws t) e w':=by
 have HR:=hid (hr.more hH);have HN:=hid hn;have X:=hid (ir ws);have M:=hid (λW=>lY n t W (by omega) (by omega));have s:Hid ((ma ws t).length=n):=hid (by rw[kL (by omega),hn]);have I:Hid ((ma ws t).flatMap ab=(spL n t).flatMap ab++((spL n t).flatMap ab++(ws.flatMap ab).drop 16)):=hid (by unfold ma;rw[hn,kxi,kxi,hU]);have q:=hid (dF pL (spL n t));have r:((spL n t).flatMap ab).length=8:=by rw[ir];exact qx n t
 obtain⟨S,hS⟩:=xq ((spL n t).flatMap ab);rw[hS] at M I q r;have d:=hid r;obtain⟨b,off,rfl,hb,-⟩:=RdW.at_ hr (show 0<ws.length by omega);clear hr hH hn hb hS r;obtain⟨i0,hi,y,l,O⟩:=kzv mC;have HI:=hid hi;have Y:=hid y;have Ja:=hid l;have Eq:=hid O;clear hi y l O;go_enter func61,ntmps61;go_wp2_with fail;refine (M.out w).mono ?_;rintro e f ⟨⟨AS,cS,rfl,a⟩,m⟩;have Jd:=hid m;obtain⟨bS,oS,rfl,Jb,x⟩:=(Rd.of_own a) (λh=>by have:=d.out;rw[h] at this;cases this);have F:Hid (∀W,Below f.heap.size f W->∀j v,S[j]? = some v->W.cell? ((⟨bS,oS,none⟩:Addr).add j)=some v):=hid λW hb j v hv=>by
  obtain⟨hj,rfl⟩:=kza.1 hv;rw[gh];exact (hb.cell (p:=⟨bS,oS+j,none⟩) Jb).trans (x j hj)
 have K:(prog.info? 53).map (·.size)=some 1:=by kernel_rfl
 have D:=hid K;have U:=hid (HR.out.up m m.size);have l:=m.size;clear m a x K;go_wp2_with (first
  | (at_builtin;refine bC _ (by rfl) _ _ 22 rfl f.heap.size 53 i0 _ 1 8 underlying22 HI.out Y.out Ja.out Eq.out rfl (by decide) (.slice (some ⟨f.heap.size,0,none⟩) 0 0) 0 [] (by rfl) (gY f _ _ _ (kqd _)) f.heap.size (some ⟨b,off,none⟩) n _ (ws.flatMap ab) (by rfl) (by rw[X.out,HN.out];omega) (Rd.alloc U.out (kqd _) _) (dF pL _) (by unfold maxLen;omega) (by omega) (by simp) ?_;intro v1 wa a J;have B:=co ((kql f.heap.size f).alloc (kqd _) _) (by simp) (gY f f.heap.size 53 1 (kqd _)) J;simp only[kxa,kz2] at a;obtain⟨g,c1,rfl⟩:=fK a (by omega);have HOWN:=hid a;have N:=hid B;obtain⟨i,z,u,R,T,P,o⟩:=ns a;have HG:=hid z;have k:=hid P;have Je:=hid o;clear a B J z P o)
  | ((with_reducible refine nL ?_);refine wpList_copy_splice rfl _ _ 22 22 rfl 53 underlying22 D.out _ _ _ _ _ _ rfl rfl g 0 i 53 HG.out S (by rw[d.out];exact (kxc (by omega)).symm) (λ_=>⟨rfl,_,rfl,F.out _ N.out⟩) (by rw[d.out,k.out];omega) q.out f.heap.size f N.out u ?_;intro w2 Q L;have G:=hid L;clear L)
  | ((with_reducible refine nL ?_);refine wpList_copy_splice rfl _ _ 22 22 rfl 53 underlying22 D.out _ _ _ _ _ _ rfl rfl g 8 (splice i 0 S) 53 Q.out S (by rw[d.out];exact (kxc (by omega)).symm) (λ_=>⟨rfl,_,rfl,F.out _ G.out⟩) (by rw[length_splice _ _ _ (by rw[d.out,k.out];omega),d.out,k.out];omega) q.out f.heap.size f G.out u ?_;intro w3 V C;have Jc:=hid C;clear C))
 go_ret;have E:(splice i 0 S).length=i.length:=length_splice _ _ _ (by rw[d.out,k.out];omega);have Z:(splice (splice i 0 S) 8 S).length=i.length:=by rw[length_splice _ _ _ (by rw[E,d.out,k.out];omega),E]
 refine⟨g,c1,by rw[s.out];rfl,?_,Jd.out.trans (Jc.out.mono l)⟩;rw[s.out];refine⟨by rw[ir,s.out,kxo],.inr ⟨g,c1,_,rfl,kz5 l u,V.out,R,T,?_,?_⟩⟩
 .rw[kjq,Z,k.out]
 have o:=Je.out;rw[kxo] at o |-;rw[Hp d.out (by omega),I.out,o]
def pa:List Nat:=ma nt 0
def b35L:List Nat:=mU 256 [[1]] [obj4 false] []
def sX:List Nat:=ma b35L 1
def j35L:List Nat:=mU 256 [[1]] [] []
def uw:List Nat:=ma j35L 1
theorem lw:pa.length=256:=by unfold pa;rw[kL (by rw[jD];omega),jD]
theorem s9:b35L.length=256:=by decide +kernel
theorem sL:j35L.length=256:=by decide +kernel
theorem pB:sX.length=256:=by unfold sX;rw[kL (by rw[s9];omega),s9]
theorem By:uw.length=256:=by unfold uw;rw[kL (by rw[sL];omega),sL]
theorem Fr:∀x∈pa,x<18446744073709551616:=by decide +kernel
theorem Bb:∀x∈sX,x<18446744073709551616:=by decide +kernel
theorem B4:lay pa=true:=by decide +kernel
theorem sf:lay sX=true:=by decide +kernel
theorem F4:(oY 20 12 (gG pa)).map (λr=>(r.1,r.2.2))=some (0,pa):=by decide +kernel
theorem Hy:(oY 20 12 (gG sX)).map (λr=>(r.1,r.2.2.take 130))=some (0,uw.take 130):=by decide +kernel
theorem zE(h:lay ws=true):cc ws=0:=by obtain⟨t,h⟩:=nu h;exact nC h
theorem EW{y:List Nat}{f k:Nat}{g:List Nat->List Nat}(hl:lay ws=true)(ho:∀v∈ws,v<18446744073709551616)(h:(oY f k (gG ws)).map (λr=>(r.1,g r.2.2))=some (0,y)):g (cpZ ws)=y:=by
 obtain⟨t,d⟩:=nu hl;cases a:oY f k (gG ws) with
 | none=>rw[a] at h;cases h
 | some r =>rw[a] at h;simp only[kzz,Option.some.injEq,Prod.mk.injEq] at h;have b:=zN (pY ho) a;have c:=(d.all ho).symm.trans b;clear b a;subst c;dsimp only at h;exact h.2
theorem f35_cp:cpZ pa=pa:=EW (g:=λx=>x) B4 Fr F4
theorem zV:(cpZ sX).take 130=uw.take 130/\(cpZ sX).length=256:=by obtain⟨t,h⟩:=nu sf;exact⟨EW (g:=λx=>x.take 130) sf Bb Hy,(tF h Bb).trans pB⟩
theorem Gh:∀k,k<1->fits 256 [[1]] [obj4 false] k:=by decide +kernel
theorem y7(w:World):Calls prog 40 #[] w λe w'=>xT w pa e w':=by have d:=hid (λW=>ti none none none [] [] [] 0 0 0 256 W.heap.size W (by omega) (by omega) RdT.nil_ (show (0:Nat)<=8 by decide) Rd.nil_ Rd.nil_ (show (0:Nat)<=16 by decide) (kqd _) (show (0:Nat)<=2048 by decide) (λk o=>absurd o (by simp)) (λk o=>absurd o (by simp)));have j:Hid (mU 256 (List.map Ty.l []) [] []=nt):=hid rfl;rw[j.out] at d;unfold xT at d;rw[jD] at d;have f:=hid (λA c W (h:RdW W W.heap.size A nt)=>qb A nt c 256 0 W.heap.size W jD (by omega) (by omega) (by omega) h (kqd _));rw[show ma nt 0=pa from rfl] at f;unfold xT at f |-;rw[lw] at f |-;simp only[kq7] at f;generalize pa=F at f |-;generalize nt=F0 at d f;clear j;go_enter func40,ntmps40;go_wp2_with fail;refine (d.out w).mono ?_;rintro e w1 ⟨g1,c1,rfl,a,i⟩;have g:=hid i;have n:=hid (Rd.of_own a);clear a i;go_wp2_with fail;refine (f.out _ _ _ n.out).mono ?_;rintro e w2 ⟨s,r,rfl,b,m⟩;have p:=hid (g.out.trans (m.mono g.out.size));have q:=hid (ao b g.out.size);clear b m;go_wp2;go_ret;exact⟨s,r,rfl,q.out,p.out⟩
theorem zD(w:World):RdT ((w.alloc (.cells #[.int .u8 1] 5)).alloc (.cells #[.slice (some ⟨w.heap.size,0,none⟩) 1 1] 113)) (w.heap.size+1+1) (some ⟨w.heap.size+1,0,none⟩) [⟨some ⟨w.heap.size,0,none⟩,1,[1]⟩]:=by have c:=(Bx.new w 5 #[.int .u8 1]).alloc (.cells #[.slice (some ⟨w.heap.size,0,none⟩) 1 1] 113);have b:=Bx.new (w.alloc (.cells #[.int .u8 1] 5)) 113 #[.slice (some ⟨w.heap.size,0,none⟩) 1 1];simp only[kqm] at b;refine⟨Rd.of_bx b (by omega),λx a=>?_⟩;rw[kq0] at a;subst a;exact⟨Rd.of_bx c (by omega),show (1:Nat)<=8 by decide,show dE [1]=true by decide⟩
theorem dJ(w:World):Calls prog 23 #[] w λe w'=>e=.returned (.bool true)/\Below w.heap.size w w':=by
 have t:=hid (λW=>y7 W);unfold xT at t;rw[lw] at t;have H:=hid (λA c W (hc:256<=c) (h:RdW W W.heap.size A pa)=>ph A pa c 256 W lw (by omega) hc h Fr);have y:=hid (λA c W (hc:256<=c) (h:RdW W W.heap.size A sX)=>ph A sX c 256 W pB (by omega) hc h Bb);unfold Ho at H y;rw[zE B4,f35_cp,lw] at H;rw[zE sf,pB] at y;have T:=hid (λ(W X:World) (hT:RdT X X.heap.size (some ⟨W.heap.size+1,0,none⟩) [⟨some ⟨W.heap.size,0,none⟩,1,[1]⟩]) (hB:RdB X X.heap.size (some ⟨W.heap.size+1+1,0,none⟩) [obj4 false])=>ti (some ⟨W.heap.size+1,0,none⟩) (some ⟨W.heap.size+1+1,0,none⟩) none [⟨some ⟨W.heap.size,0,none⟩,1,[1]⟩] [obj4 false] [] 1 1 0 256 X.heap.size X (by omega) (by omega) hT (show (1:Nat)<=8 by decide) hB Rd.nil_ (show (0:Nat)<=16 by decide) (kqd _) (show (1:Nat)<=2048 by decide) (λk hk=>Gh k hk) (λk hk=>absurd hk (by simp)))
 have V:=hid (λ(W X:World) (hT:RdT X X.heap.size (some ⟨W.heap.size+1,0,none⟩) [⟨some ⟨W.heap.size,0,none⟩,1,[1]⟩])=>ti (some ⟨W.heap.size+1,0,none⟩) none none [⟨some ⟨W.heap.size,0,none⟩,1,[1]⟩] [] [] 1 0 0 256 X.heap.size X (by omega) (by omega) hT (show (1:Nat)<=8 by decide) Rd.nil_ Rd.nil_ (show (0:Nat)<=16 by decide) (kqd _) (show (0:Nat)<=2048 by decide) (λk hk=>absurd hk (by simp)) (λk hk=>absurd hk (by simp)));have x:=hid (λA c W (h:RdW W W.heap.size A b35L)=>qb A b35L c 256 1 W.heap.size W s9 (by omega) (by omega) (by omega) h (kqd _));have r:=hid (λA c W (h:RdW W W.heap.size A j35L)=>qb A j35L c 256 1 W.heap.size W sL (by omega) (by omega) (by omega) h (kqd _));simp only[kxz,List.map_nil] at T V;rw[show ma b35L 1=sX from rfl] at x;rw[show ma j35L 1=uw from rfl] at r;unfold xT at T V x r;rw[pB] at x;rw[By] at r;have R:=hid (λA c B d W (h1:RdW W W.heap.size A pa) (h2:RdW W W.heap.size B pa)=>iG A B pa pa 256 256 c d W.heap.size W lw lw (by omega) h1 h2 (kqd _));rw[show decide (pa=pa)=true by simp] at R
 have P:=hid (λA c B d W (h1:RdW W W.heap.size A ((cpZ sX).take 130)) (h2:RdW W W.heap.size B (uw.take 130))=>iG A B ((cpZ sX).take 130) (uw.take 130) 130 130 c d W.heap.size W (by rw[kq3,zV.2];rfl) (by rw[kq3,By];rfl) (by omega) h1 h2 (kqd _));rw[zV.1,show decide (uw.take 130=uw.take 130)=true by simp] at P;have Ja:Hid (∀W B A,RdW W B A (cpZ sX)->RdW W B A (uw.take 130)):=hid λW B A h=>by
  have:=h.take_ 130;rw[<-ll ab bh,zV.1] at this;exact this
 have Eq:Hid (∀W B A,RdW W B A uw->RdW W B A (uw.take 130)):=hid λW B A h=>by
  have:=h.take_ 130;rw[<-ll ab bh] at this;exact this
 generalize pa=F at t H R;generalize uw.take 130=K3 at P Ja Eq;generalize cpZ sX=Z at y Ja;generalize uw=K5 at r Eq;generalize sX=CL at x y;have Jb:∀W:World,((W.alloc (.cells #[.int .u8 1] 5)).alloc (.cells #[.slice (some ⟨W.heap.size,0,none⟩) 1 1] 113)).heap.size=W.heap.size+1+1:=λW=>by simp
 have Jj:∀W:World,(((W.alloc (.cells #[.int .u8 1] 5)).alloc (.cells #[.slice (some ⟨W.heap.size,0,none⟩) 1 1] 113)).alloc (.cells #[.int .i64 0,.int .i64 4,.int .i64 1,.int .i64 0,.bool false,.int .u64 0] 55)).heap.size=W.heap.size+1+1+1:=λW=>by simp
 have Jm:=hid Jb;have Jw:=hid Jj;clear Jb Jj;go_enter func23,ntmps23;go_wp2_with fail;refine (t.out w).mono ?_;rintro e w1 ⟨g1,c1,rfl,f,Jd⟩;have Ji:=hid Jd;have Q:=hid (Rd.of_own f);have Kf:=aZ f;clear f Jd;go_wp2_with fail;refine (H.out _ _ _ Kf Q.out).mono ?_;rintro e m ⟨⟨hv,-⟩,Jp⟩;obtain⟨g2,c2,rfl,u⟩:=hv trivial;have Jf:=hid (Ji.out.trans (Jp.mono Ji.out.size));have a:=hid (Rd.of_own u);clear hv u Jp;go_wp2_with fail;have Y:=(zD m).below (((kql (m.heap.size+1+1) ((m.alloc (.cells #[.int .u8 1] 5)).alloc (.cells #[.slice (some ⟨m.heap.size,0,none⟩) 1 1] 113))).alloc (by simp) (.cells #[.int .i64 0,.int .i64 4,.int .i64 1,.int .i64 0,.bool false,.int .u64 0] 55)));have x3:=Bx.new ((m.alloc (.cells #[.int .u8 1] 5)).alloc (.cells #[.slice (some ⟨m.heap.size,0,none⟩) 1 1] 113)) 55 #[.int .i64 0,.int .i64 4,.int .i64 1,.int .i64 0,.bool false,.int .u64 0];have o:=(((kql m.heap.size m).alloc (kqd _) (.cells #[.int .u8 1] 5)).alloc (by simp) (.cells #[.slice (some ⟨m.heap.size,0,none⟩) 1 1] 113)).alloc (by simp;omega) (.cells #[.int .i64 0,.int .i64 4,.int .i64 1,.int .i64 0,.bool false,.int .u64 0] 55);have q:=Jw.out m;rw[Jm.out m] at x3
 obtain⟨D,z⟩:∃D,((m.alloc (.cells #[.int .u8 1] 5)).alloc (.cells #[.slice (some ⟨m.heap.size,0,none⟩) 1 1] 113)).alloc (.cells #[.int .i64 0,.int .i64 4,.int .i64 1,.int .i64 0,.bool false,.int .u64 0] 55)=D:=⟨_,rfl⟩;rw[z] at Y x3 o q |-;have T3:=Y.more (show m.heap.size+1+1<=D.heap.size by omega);have Jo:=hid (Jf.out.trans (o.mono Jf.out.size));have I:=hid (a.out.up o o.size);refine (T.out m D T3 (show Rd _ _ _ _ from Rd.of_bx x3 x3.lt)).mono ?_;rintro e w4 ⟨g4,c4,rfl,s,E⟩;have Je:=hid (Jo.out.trans (E.mono Jo.out.size));have Jr:=hid (I.out.up E E.size);have Ju:=hid (Rd.of_own s);clear s E Y x3 o q T3 z;go_wp2_with fail;refine (x.out _ _ _ Ju.out).mono ?_;rintro e w5 ⟨g5,c5,rfl,i,G⟩;have Jl:=hid (Je.out.trans (G.mono Je.out.size));have Ki:=hid (Jr.out.up G G.size);have Jz:=hid (Rd.of_own i);have Js:=aZ i;clear i G;go_wp2_with fail;refine (y.out _ _ _ Js Jz.out).mono ?_;rintro e M ⟨⟨hv,-⟩,L⟩;obtain⟨g6,c6,rfl,j⟩:=hv trivial;have Jk:=hid (Jl.out.trans (L.mono Jl.out.size));have Jt:=hid (Ki.out.up L L.size);have Kh:=hid (Ja.out _ _ _ (Rd.of_own j));have hc6:=aZ j;clear hv j L;go_wp2_with fail;have Y:=zD M
 have o:=((kql M.heap.size M).alloc (kqd _) (.cells #[.int .u8 1] 5)).alloc (by simp) (.cells #[.slice (some ⟨M.heap.size,0,none⟩) 1 1] 113);have q:=Jm.out M;obtain⟨D,z⟩:∃D,(M.alloc (.cells #[.int .u8 1] 5)).alloc (.cells #[.slice (some ⟨M.heap.size,0,none⟩) 1 1] 113)=D:=⟨_,rfl⟩;rw[z] at Y o q |-;have T3:=Y.more (show M.heap.size+1+1<=D.heap.size by omega);have Jh:=hid (Jk.out.trans (o.mono Jk.out.size));have Kb:=hid (Jt.out.up o o.size);have Ka:=hid (Kh.out.up o o.size);refine (V.out M D T3).mono ?_;rintro e w8 ⟨g8,c8,rfl,C,p⟩;have Jq:=hid (Jh.out.trans (p.mono Jh.out.size));have Ke:=hid (Kb.out.up p p.size);have Kg:=hid (Ka.out.up p p.size);have Kd:=hid (Rd.of_own C);clear C p Y o q T3 z;go_wp2_with fail;refine (r.out _ _ _ Kd.out).mono ?_;rintro e U ⟨g7,c7,rfl,l,n⟩;have Jc:=hid (Jq.out.trans (n.mono Jq.out.size));have Jy:=hid (Ke.out.up n n.size);have Jv:=hid (Kg.out.up n n.size);have Kc:=hid (Eq.out _ _ _ (Rd.of_own l));have hc7:=aZ l;clear l n;go_upto_region 5 with (fail)
 refine nD (S:=λX:World=>Below U.heap.size U X) ((0,0,0)::(0,1,0)::(0,2,0)::(0,3,0)::(1,4,0)::(1,5,0)::(0,6,0)::(0,7,0)::(0,8,0)::(0,9,0)::(0,10,0)::(0,11,0)::(0,12,0)::(0,13,0)::(0,17,0)::(0,18,0)::(1,14,0)::(1,15,0)::(0,16,0)::(1,19,0)::(0,20,0)::(0,21,0)::[]) (.one _ true (none)::.one _ true (none)::.one _ true (none)::.one _ true (some (some 29,true))::.one _ false (some (some 29,true))::.one _ false (some (some 29,true))::.one _ true (none)::.one _ true (none)::.one _ true (some (some 34,true))::.one _ true (some (some 34,true))::.one _ true (none)::.one _ true (none)::.one _ true (some (some 38,true))::.one _ true (some (some 38,true))::.one _ true (some (some 38,true))::.one _ true (some (some 38,true))::.one _ false (some (some 38,true))::.one _ false (some (some 38,true))::.one _ true (some (some 38,true))::.one _ false (some (some 38,true))::.one _ true (none)::.one _ true (none)::[]) (by kernel_rfl) (by kernel_rfl) (by decide) (by show lu _ _ (((0,0,0)::(0,1,0)::(0,2,0)::(0,3,0)::(1,4,0)::(1,5,0)::(0,6,0)::(0,7,0)::(0,8,0)::(0,9,0)::[])++(((0,10,0)::(0,11,0)::(0,12,0)::(0,13,0)::(0,17,0)::(0,18,0)::(1,14,0)::(1,15,0)::(0,16,0)::(1,19,0)::[])++(((0,20,0)::(0,21,0)::[])))) _=true;refine nl _ (by as_aux_lemma=>kernel_rfl) ?_;refine nl _ (by as_aux_lemma=>kernel_rfl) ?_;(as_aux_lemma=>kernel_rfl)) (by rfl) (λ_ _ d _ _ h=>by cases d<;>exact h) (kql _ _).drew ?_
 have J:=hid ((kql U.heap.size U).drew);obtain⟨X0,Jg⟩:=xq U.drew;rw[Jg] at J |-;clear Jg;have hne:Nonempty (SW (λX:World=>Below U.heap.size U X)):=⟨⟨X0,J.out⟩⟩
 iterate 4 (first | (refine eK (by rfl) ?_;(try simp only[Act.put,kqa,kqf,kqe])) | (refine iN (by rfl) ?_;intro K b;go_big_quiet_op;go_big_quiet_on))
 refine sy (by rfl) ?_;intro K b;go_big_op;refine (t.out X0).mono ?_;rintro e X1 ⟨g,d,rfl,O,N⟩;have v:=hid (J.out.trans (N.mono J.out.size));have Q:=hid (Rd.of_own O);refine b _ _ v.out ?_;clear b K N O;(try simp only[Act.put,kqa,kqf,kqe]);refine sy (by rfl) ?_;intro K b;go_big_op;refine (R.out _ _ _ _ _ (Jy.out.up v.out v.out.size) Q.out).mono ?_;rintro e X2 ⟨rfl,N⟩;have a:=hid (v.out.trans (N.mono v.out.size));refine b _ _ a.out ?_;clear b K N;(try simp only[Act.put,kqa,kqf,kqe])
 iterate 10 (first | (refine eK (by rfl) ?_;(try simp only[Act.put,kqa,kqf,kqe])) | (refine iN (by rfl) ?_;intro K b;go_big_quiet_op;go_big_quiet_on))
 (first | (refine eK (by rfl) ?_;(try simp only[Act.put,kqa,kqf,kqe])) | (refine sy (by rfl) ?_;intro K b;go_big_op;refine b _ _ a.out ?_;clear b K;(try simp only[Act.put,kqa,kqf,kqe])))
 (first | (refine eK (by rfl) ?_;(try simp only[Act.put,kqa,kqf,kqe])) | (refine sy (by rfl) ?_;intro K b;go_big_op;refine b _ _ a.out ?_;clear b K;(try simp only[Act.put,kqa,kqf,kqe])))
 iterate 1 (first | (refine eK (by rfl) ?_;(try simp only[Act.put,kqa,kqf,kqe])) | (refine iN (by rfl) ?_;intro K b;go_big_quiet_op;go_big_quiet_on))
 refine sy (by rfl) ?_;intro K b;go_big_op;refine (P.out _ _ _ _ _ (Jv.out.up a.out a.out.size) (Kc.out.up a.out a.out.size)).mono ?_;rintro e X3 ⟨rfl,N⟩;have I:=hid (a.out.trans (N.mono a.out.size));refine b _ _ I.out ?_;clear b K N;(try simp only[Act.put,kqa,kqf,kqe])
 iterate 2 (first | (refine eK (by rfl) ?_;(try simp only[Act.put,kqa,kqf,kqe])) | (refine iN (by rfl) ?_;intro K b;go_big_quiet_op;go_big_quiet_on))
 refine Af ?_;go_wp2;go_ret;exact⟨rfl,Jc.out.trans (I.out.mono Jc.out.size)⟩
end Go.Proofs.YtpcajamacpbjcaaGreat
