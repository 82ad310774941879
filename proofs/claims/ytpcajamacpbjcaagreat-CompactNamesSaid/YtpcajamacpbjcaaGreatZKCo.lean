/- Texts laid together: CoW CoE Form Al35. -/
import Derived.Test.YtpcajamacpbjcaaGreatZKLy2
import Derived.Test.YtpcajamacpbjcaaGreatZKCp2
import Derived.Test.YtpcajamacpbjcaaGreatZKNx
import Derived.Test.YtpcajamacpbjcaaGreatZKStg1
import Derived.Test.YtpcajamacpbjcaaGreatZKEff
import Derived.Test.YtpcajamacpbjcaaGreatZKSup
import Derived.Laws.CopyOwn
import Derived.Test.YtpcajamacpbjcaaGreatZKRun
import Derived.Test.YtpcajamacpbjcaaGreatZKStg3
import Derived.Test.YtpcajamacpbjcaaGreatZSameW
import Derived.Test.YtpcajamacpbjcaaGreatZKImage
import Derived.Test.YtpcajamacpbjcaaGreatZKR19
set_option maxHeartbeats 16000000
set_option maxRecDepth 100000
set_option linter.all false
namespace Go.Proofs.YtpcajamacpbjcaaGreat
open Lib (hid)
open Go.RowKit
variable {ws:List Nat}{n t:Nat}{w:World}
open Go.Proofs.Tryz
noncomputable def coL (ws:List Nat):List (List En):=if bi ws=0 then [⟨16,1⟩]::(rsE (gF ws)).2.1 else []
theorem iB(h:bi ws=0):ap (ws.length:Int)=true/\lay ws=true:=by
 unfold bi at h;cases a:ap (ws.length:Int)
 .rw[a] at h;cases h
 rw[a,if_pos rfl] at h;cases b:lay ws
 .rw[b] at h;cases h
 exact⟨rfl,rfl⟩
theorem yn(h:Lay ws t):bi ws=0:=by unfold bi;rw[pI h.ty,h.lay];rfl
theorem Lay.all(h:Lay ws t)(ho:∀v∈ws,v<18446744073709551616):ip (gF ws)=(0,(rsE (gF ws)).2.1,cpZ ws):=by unfold ip;rw[if_pos h.first.2.1];have:=(h.run ho).all;rw[this];rfl
theorem GQ(h:Lay ws t)(ho:∀v∈ws,v<18446744073709551616):(cpZ ws).length=ws.length:=(h.desc ho).1.len
theorem k9(A:Option Addr)(ws:List Nat)(c n:Nat)(w:World)(hn:ws.length=n)(hm:n<=9223372036854775807)(hc:n<=c)(hr:RdW w w.heap.size A ws)(ho:∀x∈ws,x<18446744073709551616):
 Calls prog 14 #[.slice A n c] w λe w'=>gp w.heap.size (bi ws) (if bi ws=0 then [⟨16,1⟩] else []) e w'/\Below w.heap.size w w':=by
 have g:=hid (y6 A ws c n w hn hm hc hr ho);obtain⟨r,b⟩:=xq (bi ws);rw[b] at g |-;clear hr ho hc hm hn b;by_cases d:r=0
 .subst d;rw[if_pos rfl];go_enter func14,ntmps14;go_wp2_with fail;refine g.out.mono ?_;rintro e f ⟨rfl,a⟩;have h:=hid (cp (n:=1) (sz:=2) f 89 #[.int .i64 16,.int .u64 1] (kqa _) (by rfl) (by unfold maxLen;omega));have j:=hid (a.alloc a.size (.cells #[.int .i64 16,.int .u64 1] 89));have i:=a.size;go_wp2;go_ret2;exact⟨⟨some ⟨f.heap.size,0,none⟩,1,rfl,am h.out i⟩,j.out⟩
 rw[if_neg d];have e1:(r != 0)=true:=by rw[kqu];exact d
 clear d;go_enter func14,ntmps14;go_wp2_with fail;refine g.out.mono ?_;rintro e f ⟨rfl,a⟩;go_wp2;go_ret2;exact⟨bE rfl rfl,a⟩
def FP (ws:List Nat) (H:Nat) (e:Ending) (w':World):Prop:=∃(L:List Ch) (B:Option Addr) (d:Nat) (vx:Value),e=.returned (.tuple #[.slice B L.length d,vx,.int .i64 (bi ws)])/\L.map Ch.l=coL ws/\RdC w' w'.heap.size B L/\(∀x∈L,x.l.length<=32/\RdE w' w'.heap.size x.A x.l) /\
 (bi ws=0->∃g c,vx=.slice (some ⟨g,0,none⟩) ws.length c/\w'.ownsRow H 53 1 (.slice (some ⟨g,0,none⟩) ws.length c) ws.length ((cpZ ws).flatMap aa))/\(bi ws≠0->vx=.slice none 0 0)
theorem Ch.one:∀x:Ch,∀u∈x.cells,u.oneCell'=true:=λx u a=>by unfold Ch.cells at a;rw[kqx] at a;subst a;rfl
theorem mC(A:Option Addr)(ws:List Nat)(c n:Nat)(w:World)(hn:ws.length=n)(hm:n<=9223372036854775807)(hc:n<=c)(hr:RdW w w.heap.size A ws)(ho:∀x∈ws,x<18446744073709551616):
 Calls prog 50 #[.slice A n c] w λe w'=>FP ws w.heap.size e w'/\Below w.heap.size w w':=by
 subst hn;have F:=hid (k9 A ws c ws.length w rfl hm hc hr ho);have HR:=hid hr;by_cases g:bi ws=0
 .obtain ⟨hs,hl⟩:=iB g;obtain⟨t,u⟩:=lW hl;rw[g,if_pos rfl] at F;unfold gp at F;have hlen:=(ae _).1 hs;have G:=hid (λB d W (h:RdW W W.heap.size A ws) (h2:RdE W W.heap.size B [⟨16,1⟩])=>zG A B ws [⟨16,1⟩] c d ws.length 1 W.heap.size W rfl rfl hs (by omega) (λe he=>by rw[kqx] at he;subst he;exact⟨by decide,by dsimp only;omega⟩) h h2 (kqa _));unfold OwnV at G;rw[show aj ws [⟨16,1⟩]=gF ws from rfl,iS] at G;have p:=hid (λB d W (hd:ws.length<=d) (h:RdW W W.heap.size B (gF ws))=>rAll_c B (gF ws) d ws.length W (iS ws) hm hd h (nN ho));unfold FY at p;rw[u.all ho,iS] at p;have q:(rsE (gF ws)).2.1.length<=3000:=by have h1:=ml (nN ho) (u.all ho);have:=h1.2.2.1;rw[iS] at this;omega
  have S:Hid (∀E∈(rsE (gF ws)).2.1,E.length<=32):=hid λE hE=>by
   obtain⟨i,V,rfl⟩:=kq2 hE;exact ((ml (nN ho) (u.all ho)).2.2.2.2.2 i V).le
  have X:Hid (coL ws=[⟨16,1⟩]::(rsE (gF ws)).2.1):=hid (by unfold coL;rw[if_pos g]);have Y:=hid g;obtain⟨z,hO⟩:=xq ((rsE (gF ws)).2.1);rw[hO] at p X q S;obtain⟨i0,V,M,O,K⟩:=kzw Bg;have HI:=hid V;have Jf:=hid M;have Jb:=hid O;have Je:=hid K;clear V M O K;clear hr ho g hs hl u hc hO;go_enter func50,ntmps50;go_wp2_with fail;refine F.out.mono ?_;rintro e w1 ⟨⟨I,R,rfl,a⟩,s⟩;have o:=hid s;have Q:=hid (show RdE w1 w1.heap.size I [⟨16,1⟩] from Rd.of_own a);clear s a;go_wp2_with fail;refine (G.out _ _ _ (HR.out.up o.out o.out.size) Q.out).mono ?_;rintro e w2 ⟨g2,c2,rfl,b,m⟩;have H:=hid (o.out.trans (m.mono o.out.size));have Z:=hid (Q.out.up m m.size);have Eq:=hid (show RdW w2 w2.heap.size _ (gF ws) from Rd.of_own b);have y:=co b;clear m b;go_wp2_with fail;refine (p.out _ _ _ y Eq.out).mono ?_;rintro e j ⟨⟨L,B,d,vx,rfl,u,hC,hv,-⟩,k⟩;obtain⟨g3,c3,rfl,-,T⟩:=hv trivial;have N:=hid (H.out.trans (k.mono H.out.size));have Jd:=hid (Z.out.up k k.size);have Jg:=hid (am T H.out.size);have Ja:=hid (show RdC j j.heap.size B L from Rd.of_own hC.1);have Jc:=hid (λx C=>show RdE j j.heap.size x.A x.l from Rd.of_own (hC.2 x C));have hll:L.length<=3000:=by rw[<-u,kz2] at q;exact q
  have J:=hid u;clear k T hC u hv q y;go_wp2_with (at_builtin;refine bg _ (by rfl) _ _ 34 rfl j.heap.size 26 i0 _ 1 24 underlying34 HI.out Jf.out Jb.out Je.out rfl (by decide) (.slice (some ⟨j.heap.size,0,none⟩) 1 1) 1 [.slice I 1 R] (by rfl) (cp (n:=1) (sz:=1) j 26 #[.slice I 1 R] (kqa _) (by rfl) (by unfold maxLen;omega)) j.heap.size B L.length d (L.flatMap Ch.cells) (by rfl) (by rw[ci Ch.cells 1 Ch.len]) (Rd.alloc Ja.out (kqa _) _) (di Ch.one _) (by unfold maxLen;omega) (by omega) (by simp) ?_;intro v1 wa a U;have P:=bU ((kqk j.heap.size j).alloc (kqa _) _) (by simp) (cp (n:=1) (sz:=1) j 26 #[.slice I 1 R] (kqa _) (by rfl) (by unfold maxLen;omega)) U;have v:=hid a;have f:=hid P;clear a P U);obtain⟨Bv,dv,rfl⟩:=aS v.out;go_ret3;refine⟨⟨⟨I,R,[⟨16,1⟩]⟩::L,Bv,dv,_,by rw[Y.out,kq1,kj1];rfl,by rw[kx9,J.out,X.out],Rd.of_own v.out,λx C=>?_,λ_=>⟨g3,c3,rfl,ak Jg.out f.out (kqa _)⟩,λh=>absurd Y.out h⟩,N.out.trans (f.out.mono N.out.size)⟩;rcases kqt.1 C with rfl|C
  .exact ⟨by show 1<=32;decide,Jd.out.up f.out f.out.size⟩
  exact⟨S.out _ (by rw[<-J.out];exact kj4 C),(Jc.out x C).up f.out f.out.size⟩
 rw[if_neg g] at F;have X:Hid (coL ws=[]):=hid (by unfold coL;rw[if_neg g]);have Y:=hid g;unfold gp at F;obtain⟨r,D⟩:=xq (bi ws);have HQ:=hid D;rw[D] at F g;have e1:(r != 0)=true:=by rw[kqu];exact g
 clear hr ho g D;go_enter func50,ntmps50;go_wp2_with fail;refine F.out.mono ?_;rintro e w1 ⟨⟨I,R,rfl,-⟩,s⟩;go_wp2;go_ret3;exact⟨⟨[],none,0,_,by rw[HQ.out];rfl,by rw[X.out];rfl,Rd.nil_,λx C=>absurd C (by simp),λh=>absurd h Y.out,λ_=>rfl⟩,s⟩
def Gx (ws:List Nat) (H:Nat) (e:Ending) (w':World):Prop:=(bi ws=0->∃g c,e=.returned (.tuple #[.slice (some ⟨g,0,none⟩) ws.length c,.int .i64 0])/\w'.ownsRow H 53 1 (.slice (some ⟨g,0,none⟩) ws.length c) ws.length ((cpZ ws).flatMap aa))/\(bi ws≠0->e=.returned (.tuple #[.slice none 0 0,.int .i64 (bi ws)]))
theorem pa(A:Option Addr)(ws:List Nat)(c n:Nat)(w:World)(hn:ws.length=n)(hm:n<=9223372036854775807)(hc:n<=c)(hr:RdW w w.heap.size A ws)(ho:∀x∈ws,x<18446744073709551616):
 Calls prog 15 #[.slice A n c] w λe w'=>Gx ws w.heap.size e w'/\Below w.heap.size w w':=by
 subst hn;have j:=hid (mC A ws c ws.length w rfl hm hc hr ho);unfold FP at j;clear hr ho hm hc;go_enter func15,ntmps15;go_wp2_with fail;refine j.out.mono ?_;rintro e w1 ⟨⟨L,B,d,vx,rfl,-,-,-,l,k⟩,f⟩;have q:=hid l;have o:=hid k;clear l k;by_cases b:bi ws=0
 .obtain ⟨g,p,rfl,a⟩:=q.out b;have m:=hid a;have i:=hid b;rw[b];clear a b;go_wp2;go_ret2;exact⟨⟨λ_=>⟨g,p,rfl,m.out⟩,λh=>absurd i.out h⟩,f⟩
 obtain rfl:=o.out b;have i:=hid b;clear b;go_wp2;go_ret2;exact⟨⟨λh=>absurd h i.out,λ_=>rfl⟩,f⟩
noncomputable def oQ (ws:List Nat):Value:=if bi ws=0 then jQ ((coL ws).map aF) else .tuple #[je 0 0 0,.int .i64 (bi ws)]
theorem nT(A:Option Addr)(ws:List Nat)(c n:Nat)(w:World)(hn:ws.length=n)(hm:n<=9223372036854775807)(hc:n<=c)(E:RdW w w.heap.size A ws)(ho:∀x∈ws,x<18446744073709551616):
 Calls prog 29 #[.slice A n c] w λe w'=>e=.returned (oQ ws)/\Below w.heap.size w w':=by
 subst hn;have HR:=hid E;have i:=hid (λW (h:RdW W W.heap.size A ws)=>mC A ws c ws.length W rfl hm hc h ho);unfold FP at i;by_cases k:bi ws=0
 .have u:oQ ws=jQ ((coL ws).map aF):=by unfold oQ;rw[if_pos k]
  have N:(coL ws).length<=4000:=by obtain⟨M,hl⟩:=iB k;obtain⟨t,C⟩:=lW hl;have X:=ml (nN ho) (C.all ho);have Q:=X.2.2.1;have hb:=(ae _).1 M;rw[iS] at Q;unfold coL;rw[if_pos k,kq1];omega
  obtain⟨a,hO⟩:=xq (coL ws);rw[hO] at u N i;rw[k] at i;have U:=hid u;clear k u ho E hO;go_enter func29,ntmps29;go_wp2_with fail;refine (i.out _ ((HR.out.alloc (kqa _) _).more (by simp))).mono ?_;rintro e w1 ⟨⟨L,B,d,vx,rfl,C,H,z,m,-⟩,b⟩;rw[kqm] at b;have D:=Bx.of_new b;have o:=hid (ax b);obtain⟨g,cx,rfl,-⟩:=m trivial;have Z:=hid H;have Eq:=hid (λx m=>(z x m).2);have O:L.length=a.length:=by rw[<-C,kz2]
  have F:chA L=a.map aF:=by rw[<-C,List.map_map];rfl
  have Y:Hid (∀x∈L,x.l.length<=maxLen):=hid λx m=>by
   have:=(z x m).1;unfold maxLen;omega
  have HS:=hid (λW X Q=>sum_n B L d L.length W rfl (by omega) X Q);rw[F] at HS;obtain⟨s,M⟩:=xq (smS (a.map aF));obtain⟨f,hf⟩:=xq (smF (a.map aF));obtain⟨q,hq⟩:=xq (smN (a.map aF));obtain⟨r,E⟩:=xq (ew (a.map aF));have HE:=hid (show jQ (a.map aF)=.tuple #[.agg #[.int .i64 s,.int .i64 f,.int .i64 q],.int .i64 r] by rw[jQ,je,M,hf,hq,E]);have Ja:=D.lt;have B1:=hid D;obtain⟨G,I,J,p3,P,R,V⟩:=D.c3;clear M hf hq E m H z C b O F D;go_wp2_with fail;refine (HS.out w1 (show RdC _ _ _ _ from Z.out) (λx m=>⟨Y.out x m,Eq.out x m⟩)).mono ?_;rintro e w2 ⟨rfl,y⟩;rw[HE.out];have S:=hid (o.out.trans (y.mono o.out.size));have T:=B1.out.up y Ja;clear G I J p3 P R V;obtain⟨G,I,J,p3,P,R,V⟩:=T.c3;have C2:=hid T;clear y T;go_wp2_with fail;refine kqr (v:=.tuple #[je s f q,.int .i64 r]) (by simp[results,results29,go_sem,je,G,I,J]) rfl ⟨by rw[U.out,HE.out];rfl,?_⟩;exact ((S.out.setCell (kqa _) _).setCell (kqa _) _).setCell (kqa _) _
 have u:oQ ws=.tuple #[je 0 0 0,.int .i64 (bi ws)]:=by unfold oQ;rw[if_neg k]
 obtain⟨j,p⟩:=xq (bi ws);rw[p] at i u k;have hne:(j != 0)=true:=by rw[kqu];exact k
 have dn0:decide (j=0)=false:=by rw[kqh];exact k
 have U:=hid u;clear p u ho E;go_enter func29,ntmps29;go_wp2_with fail;refine (i.out _ ((HR.out.alloc (kqa _) _).more (by simp))).mono ?_;rintro e w1 ⟨⟨L,B,d,vx,rfl,C,-,-,-,K⟩,b⟩;rw[kqm] at b;have D:=Bx.of_new b;have o:=hid (ax b);rw[K k];obtain⟨G,I,J,p3,P,R,V⟩:=D.c3;clear K k C b;go_wp2_with fail;refine kqr (v:=.tuple #[je 0 0 0,.int .i64 j]) (by simp[results,results29,go_sem,je,G,I,J]) rfl ⟨by rw[U.out],?_⟩;exact ((o.out.setCell (kqa _) _).setCell (kqa _) _).setCell (kqa _) _
def ma (ws:List Nat) (t:Nat):List Nat:=spL ws.length t++(spL ws.length t++ws.drop 16)
theorem kF(h:16<=ws.length):(ma ws t).length=ws.length:=by unfold ma;rw[kqs,kqs,rJ,kzj];omega
theorem Fu{α:Type}{cur S:List α}(hS:S.length=8)(hn:16<=n):(splice (splice cur 0 S) 8 S).take n=S++(S++(cur.take n).drop 16):=by
 have a:splice cur 0 S=S++cur.drop 8:=by unfold splice;rw[List.take_zero,kzv,hS]
 have b:splice (splice cur 0 S) 8 S=S++(S++cur.drop 16):=by rw[a];unfold splice;rw[kz7 (by omega),kq5 (by omega),hS,kk5,kx5 (by omega),kzv,hS,kxg]
 rw[b,List.take_append,kq5 (by omega),hS,List.take_append,kq5 (by omega),hS,List.drop_take];congr 3
theorem lG(ws:List Nat)(k:Nat):(ws.drop k).flatMap aa=(ws.flatMap aa).drop k:=oj aa aX ws k
theorem ng{H sz g c:Nat}{e:TypeId}{xs:List Value}(h:w.ownsRow H e sz (.slice (some ⟨g,0,none⟩) n c) n xs):∃a:List Value,w.heap[g]? = some (.cells a.toArray e (0,0))/\H<=g/\n<=c/\c<=maxLen/\a.length=c*sz/\a.take (n*sz)=xs:=by
 rcases h.2 with⟨b,-⟩|⟨g',cap,a,b,d,f,k,i,l,j⟩
 .cases b
 simp only[Value.slice.injEq,Option.some.injEq,Addr.mk.injEq,and_true,true_and] at b;obtain⟨rfl,rfl⟩:=b;exact⟨a.toList,by rw[f],d,k,i,by rw[kkh,l],j⟩
theorem nt{P:Program}{ops:Array Oper}{rest:List Oper}{a:Act}{Q:Exit->Act->World->Prop}{dst:Option Tmp}{type:TypeId}{pos:String}{after:Array Edge}{guard:Option (Nat × Bool)}{xs:Array Operand}{ts:Array TypeId}(h:wpList P ops Q ({ dst:=dst,op:=.call { callee:=.builtin .copy,args:=xs,argTypes:=ts },type:=type,pos:=pos,after:=after,guard:=guard }::rest) a w):wpList P ops Q ({ dst:=dst,op:=.call { callee:=.builtin .copy,args:=xs,argTypes:=ts },type:=type,pos:=pos,after:=after,guard:=guard }::rest) a w:=h
theorem f8(b o j:Nat):(⟨b,o,none⟩:Addr).add j=⟨b,o+j,none⟩:=by unfold Addr.add;split<;>simp_all
theorem ph(A:Option Addr)(ws:List Nat)(c n t H:Nat)(w:World)(hn:ws.length=n)(h0:16<n)(hm:n<=1000000)(ht:t<=1000000)(hr:RdW w H A ws)(hH:H<=w.heap.size):
 Calls prog 61 #[.slice A n c,.int .i64 (t:Int)] w λe w'=>rM w (ma ws t) e w':=by
 have HR:=hid (hr.more hH);have HN:=hid hn;have Jb:=hid (fW ws);have G:=hid (λW=>qS n t W (by omega) (by omega));have u:Hid ((ma ws t).length=n):=hid (by rw[kF (by omega),hn]);have K:Hid ((ma ws t).flatMap aa=(spL n t).flatMap aa++((spL n t).flatMap aa++(ws.flatMap aa).drop 16)):=hid (by unfold ma;rw[hn,kxf,kxf,lG]);have q:=hid (di mn (spL n t));have s:((spL n t).flatMap aa).length=8:=by rw[fW];exact rJ n t
 obtain⟨S,hS⟩:=xq ((spL n t).flatMap aa);rw[hS] at G K q s;have d:=hid s;obtain⟨b,off,rfl,T,-⟩:=RdW.at_ hr (show 0<ws.length by omega);clear hr hH hn T hS s;obtain⟨i0,hi,N,o,C⟩:=kzw jI;have HI:=hid hi;have U:=hid N;have V:=hid o;have R:=hid C;clear hi N o C;go_enter func61,ntmps61;go_wp2_with fail;refine (G.out w).mono ?_;rintro e f ⟨⟨AS,cS,rfl,a⟩,l⟩;have Y:=hid l;obtain⟨bS,oS,rfl,Ja,D⟩:=(Rd.of_own a) (λh=>by have:=d.out;rw[h] at this;cases this);have P:Hid (∀W,Below f.heap.size f W->∀j v,S[j]? = some v->W.cell? ((⟨bS,oS,none⟩:Addr).add j)=some v):=hid λW T j v hv=>by
  obtain⟨hj,rfl⟩:=kq7.1 hv;rw[f8];exact (T.cell (p:=⟨bS,oS+j,none⟩) Ja).trans (D j hj)
 have O:(prog.info? 53).map (·.size)=some 1:=by kernel_rfl
 have M:=hid O;have Jf:=hid (HR.out.up l l.size);have o:=l.size;clear l a D O;go_wp2_with (first
  | (at_builtin;refine bg _ (by rfl) _ _ 22 rfl f.heap.size 53 i0 _ 1 8 underlying22 HI.out U.out V.out R.out rfl (by decide) (.slice (some ⟨f.heap.size,0,none⟩) 0 0) 0 [] (by rfl) (ft f _ _ _ (kqa _)) f.heap.size (some ⟨b,off,none⟩) n _ (ws.flatMap aa) (by rfl) (by rw[Jb.out,HN.out];omega) (Rd.alloc Jf.out (kqa _) _) (di mn _) (by unfold maxLen;omega) (by omega) (by simp) ?_;intro v1 wa a L;have z:=bU ((kqk f.heap.size f).alloc (kqa _) _) (by simp) (ft f f.heap.size 53 1 (kqa _)) L;simp only[kxd,kzv] at a;obtain⟨g,c1,rfl⟩:=fj a (by omega);have HOWN:=hid a;have F:=hid z;obtain⟨i,B,r,Q,Jc,x,m⟩:=ng a;have HG:=hid B;have k:=hid x;have Eq:=hid m;clear a z L B x m)
  | ((with_reducible refine nt ?_);refine wpList_copy_splice rfl _ _ 22 22 rfl 53 underlying22 M.out _ _ _ _ _ _ rfl rfl g 0 i 53 HG.out S (by rw[d.out];exact (kxa (by omega)).symm) (λ_=>⟨rfl,_,rfl,P.out _ F.out⟩) (by rw[d.out,k.out];omega) q.out f.heap.size f F.out r ?_;intro w2 Je E;have I:=hid E;clear E)
  | ((with_reducible refine nt ?_);refine wpList_copy_splice rfl _ _ 22 22 rfl 53 underlying22 M.out _ _ _ _ _ _ rfl rfl g 8 (splice i 0 S) 53 Je.out S (by rw[d.out];exact (kxa (by omega)).symm) (λ_=>⟨rfl,_,rfl,P.out _ I.out⟩) (by rw[length_splice _ _ _ (by rw[d.out,k.out];omega),d.out,k.out];omega) q.out f.heap.size f I.out r ?_;intro w3 Z J;have Jd:=hid J;clear J))
 go_ret;have y:(splice i 0 S).length=i.length:=length_splice _ _ _ (by rw[d.out,k.out];omega);have X:(splice (splice i 0 S) 8 S).length=i.length:=by rw[length_splice _ _ _ (by rw[y,d.out,k.out];omega),y]
 refine⟨g,c1,by rw[u.out];rfl,?_,Y.out.trans (Jd.out.mono o)⟩;rw[u.out];refine⟨by rw[fW,u.out,kxh],.inr ⟨g,c1,_,rfl,kz1 o r,Z.out,Q,Jc,?_,?_⟩⟩
 .rw[kji,X,k.out]
 have m:=Eq.out;rw[kxh] at m |-;rw[Fu d.out (by omega),K.out,m]
def dW:List Nat:=ma ni 0
def b35L:List Nat:=mL 256 [[1]] [obj4 false] []
def rX:List Nat:=ma b35L 1
def j35L:List Nat:=mL 256 [[1]] [] []
def ul:List Nat:=ma j35L 1
theorem de:dW.length=256:=by unfold dW;rw[kF (by rw[jD];omega),jD]
theorem sd:b35L.length=256:=by decide +kernel
theorem sF:j35L.length=256:=by decide +kernel
theorem oJ:rX.length=256:=by unfold rX;rw[kF (by rw[sd];omega),sd]
theorem ye:ul.length=256:=by unfold ul;rw[kF (by rw[sF];omega),sF]
theorem ko:∀x∈dW,x<18446744073709551616:=by decide +kernel
theorem xr:∀x∈rX,x<18446744073709551616:=by decide +kernel
theorem kh:lay dW=true:=by decide +kernel
theorem sq:lay rX=true:=by decide +kernel
theorem yp:(lT 20 12 (gF dW)).map (λr=>(r.1,r.2.2))=some (0,dW):=by decide +kernel
theorem GD:(lT 20 12 (gF rX)).map (λr=>(r.1,r.2.2.take 130))=some (0,ul.take 130):=by decide +kernel
theorem lM(h:lay ws=true):bi ws=0:=by obtain⟨t,h⟩:=lW h;exact yn h
theorem EL{y:List Nat}{f k:Nat}{g:List Nat->List Nat}(hl:lay ws=true)(ho:∀v∈ws,v<18446744073709551616)(h:(lT f k (gF ws)).map (λr=>(r.1,g r.2.2))=some (0,y)):g (cpZ ws)=y:=by
 obtain⟨t,d⟩:=lW hl;cases a:lT f k (gF ws) with
 | none=>rw[a] at h;cases h
 | some r =>rw[a] at h;simp only[kzt,Option.some.injEq,Prod.mk.injEq] at h;have b:=rD (nN ho) a;have c:=(d.all ho).symm.trans b;clear b a;subst c;dsimp only at h;exact h.2
theorem f35_cp:cpZ dW=dW:=EL (g:=λx=>x) kh ko yp
theorem Ak:(cpZ rX).take 130=ul.take 130/\(cpZ rX).length=256:=by obtain⟨t,h⟩:=lW sq;exact⟨EL (g:=λx=>x.take 130) sq xr GD,(GQ h xr).trans oJ⟩
theorem FS:∀k,k<1->fits 256 [[1]] [obj4 false] k:=by decide +kernel
theorem ro(w:World):Calls prog 40 #[] w λe w'=>rM w dW e w':=by have b:=hid (λW=>sS none none none [] [] [] 0 0 0 256 W.heap.size W (by omega) (by omega) RdT.nil_ (show (0:Nat)<=8 by decide) Rd.nil_ Rd.nil_ (show (0:Nat)<=16 by decide) (kqa _) (show (0:Nat)<=2048 by decide) (λk n=>absurd n (by simp)) (λk n=>absurd n (by simp)));have m:Hid (mL 256 (List.map Ty.l []) [] []=ni):=hid rfl;rw[m.out] at b;unfold rM at b;rw[jD] at b;have f:=hid (λA c W (h:RdW W W.heap.size A ni)=>ph A ni c 256 0 W.heap.size W jD (by omega) (by omega) (by omega) h (kqa _));rw[show ma ni 0=dW from rfl] at f;unfold rM at f |-;rw[de] at f |-;simp only[kq9] at f;generalize dW=F at f |-;generalize ni=F0 at b f;clear m;go_enter func40,ntmps40;go_wp2_with fail;refine (b.out w).mono ?_;rintro e w1 ⟨g1,c1,rfl,a,j⟩;have g:=hid j;have o:=hid (Rd.of_own a);clear a j;go_wp2_with fail;refine (f.out _ _ _ o.out).mono ?_;rintro e w2 ⟨r,s,rfl,d,i⟩;have p:=hid (g.out.trans (i.mono g.out.size));have q:=hid (am d g.out.size);clear d i;go_wp2;go_ret;exact⟨r,s,rfl,q.out,p.out⟩
theorem xG(w:World):RdT ((w.alloc (.cells #[.int .u8 1] 5)).alloc (.cells #[.slice (some ⟨w.heap.size,0,none⟩) 1 1] 113)) (w.heap.size+1+1) (some ⟨w.heap.size+1,0,none⟩) [⟨some ⟨w.heap.size,0,none⟩,1,[1]⟩]:=by have c:=(Bx.new w 5 #[.int .u8 1]).alloc (.cells #[.slice (some ⟨w.heap.size,0,none⟩) 1 1] 113);have a:=Bx.new (w.alloc (.cells #[.int .u8 1] 5)) 113 #[.slice (some ⟨w.heap.size,0,none⟩) 1 1];simp only[kqm] at a;refine⟨Rd.of_bx a (by omega),λx b=>?_⟩;rw[kqx] at b;subst b;exact⟨Rd.of_bx c (by omega),show (1:Nat)<=8 by decide,show eV [1]=true by decide⟩
theorem zl(w:World):Calls prog 23 #[] w λe w'=>e=.returned (.bool true)/\Below w.heap.size w w':=by
 have C:=hid (λW=>ro W);unfold rM at C;rw[de] at C;have I:=hid (λA c W (hc:256<=c) (h:RdW W W.heap.size A dW)=>pa A dW c 256 W de (by omega) hc h ko);have z:=hid (λA c W (hc:256<=c) (h:RdW W W.heap.size A rX)=>pa A rX c 256 W oJ (by omega) hc h xr);unfold Gx at I z;rw[lM kh,f35_cp,de] at I;rw[lM sq,oJ] at z;have R:=hid (λ(W X:World) (hT:RdT X X.heap.size (some ⟨W.heap.size+1,0,none⟩) [⟨some ⟨W.heap.size,0,none⟩,1,[1]⟩]) (hB:RdB X X.heap.size (some ⟨W.heap.size+1+1,0,none⟩) [obj4 false])=>sS (some ⟨W.heap.size+1,0,none⟩) (some ⟨W.heap.size+1+1,0,none⟩) none [⟨some ⟨W.heap.size,0,none⟩,1,[1]⟩] [obj4 false] [] 1 1 0 256 X.heap.size X (by omega) (by omega) hT (show (1:Nat)<=8 by decide) hB Rd.nil_ (show (0:Nat)<=16 by decide) (kqa _) (show (1:Nat)<=2048 by decide) (λk P=>FS k P) (λk P=>absurd P (by simp)))
 have Y:=hid (λ(W X:World) (hT:RdT X X.heap.size (some ⟨W.heap.size+1,0,none⟩) [⟨some ⟨W.heap.size,0,none⟩,1,[1]⟩])=>sS (some ⟨W.heap.size+1,0,none⟩) none none [⟨some ⟨W.heap.size,0,none⟩,1,[1]⟩] [] [] 1 0 0 256 X.heap.size X (by omega) (by omega) hT (show (1:Nat)<=8 by decide) Rd.nil_ Rd.nil_ (show (0:Nat)<=16 by decide) (kqa _) (show (0:Nat)<=2048 by decide) (λk P=>absurd P (by simp)) (λk P=>absurd P (by simp)));have s:=hid (λA c W (h:RdW W W.heap.size A b35L)=>ph A b35L c 256 1 W.heap.size W sd (by omega) (by omega) (by omega) h (kqa _));have y:=hid (λA c W (h:RdW W W.heap.size A j35L)=>ph A j35L c 256 1 W.heap.size W sF (by omega) (by omega) (by omega) h (kqa _));simp only[kx9,List.map_nil] at R Y;rw[show ma b35L 1=rX from rfl] at s;rw[show ma j35L 1=ul from rfl] at y;unfold rM at R Y s y;rw[oJ] at s;rw[ye] at y;have Eq:=hid (λA c B d W (h1:RdW W W.heap.size A dW) (h2:RdW W W.heap.size B dW)=>iD A B dW dW 256 256 c d W.heap.size W de de (by omega) h1 h2 (kqa _));rw[show decide (dW=dW)=true by simp] at Eq
 have T:=hid (λA c B d W (h1:RdW W W.heap.size A ((cpZ rX).take 130)) (h2:RdW W W.heap.size B (ul.take 130))=>iD A B ((cpZ rX).take 130) (ul.take 130) 130 130 c d W.heap.size W (by rw[kq3,Ak.2];rfl) (by rw[kq3,ye];rfl) (by omega) h1 h2 (kqa _));rw[Ak.1,show decide (ul.take 130=ul.take 130)=true by simp] at T;have V:Hid (∀W B A,RdW W B A (cpZ rX)->RdW W B A (ul.take 130)):=hid λW B A h=>by
  have:=h.take_ 130;rw[<-lx aa aX,Ak.1] at this;exact this
 have Q:Hid (∀W B A,RdW W B A ul->RdW W B A (ul.take 130)):=hid λW B A h=>by
  have:=h.take_ 130;rw[<-lx aa aX] at this;exact this
 generalize dW=F at C I Eq;generalize ul.take 130=K3 at T V Q;generalize cpZ rX=Z at z V;generalize ul=K5 at y Q;generalize rX=CL at s z;have Jf:∀W:World,((W.alloc (.cells #[.int .u8 1] 5)).alloc (.cells #[.slice (some ⟨W.heap.size,0,none⟩) 1 1] 113)).heap.size=W.heap.size+1+1:=λW=>by simp
 have Ja:∀W:World,(((W.alloc (.cells #[.int .u8 1] 5)).alloc (.cells #[.slice (some ⟨W.heap.size,0,none⟩) 1 1] 113)).alloc (.cells #[.int .i64 0,.int .i64 4,.int .i64 1,.int .i64 0,.bool false,.int .u64 0] 55)).heap.size=W.heap.size+1+1+1:=λW=>by simp
 have Jg:=hid Jf;have Kd:=hid Ja;clear Jf Ja;go_enter func23,ntmps23;go_wp2_with fail;refine (C.out w).mono ?_;rintro e w1 ⟨g1,c1,rfl,l,Jo⟩;have Jk:=hid Jo;have U:=hid (Rd.of_own l);have Jv:=co l;clear l Jo;go_wp2_with fail;refine (I.out _ _ _ Jv U.out).mono ?_;rintro e m ⟨⟨hv,-⟩,Ji⟩;obtain⟨g2,c2,rfl,t⟩:=hv trivial;have Jl:=hid (Jk.out.trans (Ji.mono Jk.out.size));have a:=hid (Rd.of_own t);clear hv t Ji;go_wp2_with fail;have t3:=(xG m).below (((kqk (m.heap.size+1+1) ((m.alloc (.cells #[.int .u8 1] 5)).alloc (.cells #[.slice (some ⟨m.heap.size,0,none⟩) 1 1] 113))).alloc (by simp) (.cells #[.int .i64 0,.int .i64 4,.int .i64 1,.int .i64 0,.bool false,.int .u64 0] 55)));have x3:=Bx.new ((m.alloc (.cells #[.int .u8 1] 5)).alloc (.cells #[.slice (some ⟨m.heap.size,0,none⟩) 1 1] 113)) 55 #[.int .i64 0,.int .i64 4,.int .i64 1,.int .i64 0,.bool false,.int .u64 0];have n:=(((kqk m.heap.size m).alloc (kqa _) (.cells #[.int .u8 1] 5)).alloc (by simp) (.cells #[.slice (some ⟨m.heap.size,0,none⟩) 1 1] 113)).alloc (by simp;omega) (.cells #[.int .i64 0,.int .i64 4,.int .i64 1,.int .i64 0,.bool false,.int .u64 0] 55);have r:=Kd.out m;rw[Jg.out m] at x3
 obtain⟨D,v⟩:∃D,((m.alloc (.cells #[.int .u8 1] 5)).alloc (.cells #[.slice (some ⟨m.heap.size,0,none⟩) 1 1] 113)).alloc (.cells #[.int .i64 0,.int .i64 4,.int .i64 1,.int .i64 0,.bool false,.int .u64 0] 55)=D:=⟨_,rfl⟩;rw[v] at t3 x3 n r |-;have T3:=t3.more (show m.heap.size+1+1<=D.heap.size by omega);have Je:=hid (Jl.out.trans (n.mono Jl.out.size));have J:=hid (a.out.up n n.size);refine (R.out m D T3 (show Rd _ _ _ _ from Rd.of_bx x3 x3.lt)).mono ?_;rintro e w4 ⟨g4,c4,rfl,x,G⟩;have Jj:=hid (Je.out.trans (G.mono Je.out.size));have Ka:=hid (J.out.up G G.size);have Ke:=hid (Rd.of_own x);clear x G t3 x3 n r T3 v;go_wp2_with fail;refine (s.out _ _ _ Ke.out).mono ?_;rintro e w5 ⟨g5,c5,rfl,i,H⟩;have Jm:=hid (Jj.out.trans (H.mono Jj.out.size));have Kf:=hid (Ka.out.up H H.size);have Kb:=hid (Rd.of_own i);have Kc:=co i;clear i H;go_wp2_with fail;refine (z.out _ _ _ Kc Kb.out).mono ?_;rintro e L ⟨⟨hv,-⟩,M⟩;obtain⟨g6,c6,rfl,j⟩:=hv trivial;have Jd:=hid (Jm.out.trans (M.mono Jm.out.size));have Jz:=hid (Kf.out.up M M.size);have Jr:=hid (V.out _ _ _ (Rd.of_own j));have hc6:=co j;clear hv j M;go_wp2_with fail;have t3:=xG L
 have n:=((kqk L.heap.size L).alloc (kqa _) (.cells #[.int .u8 1] 5)).alloc (by simp) (.cells #[.slice (some ⟨L.heap.size,0,none⟩) 1 1] 113);have r:=Jg.out L;obtain⟨D,v⟩:∃D,(L.alloc (.cells #[.int .u8 1] 5)).alloc (.cells #[.slice (some ⟨L.heap.size,0,none⟩) 1 1] 113)=D:=⟨_,rfl⟩;rw[v] at t3 n r |-;have T3:=t3.more (show L.heap.size+1+1<=D.heap.size by omega);have Jb:=hid (Jd.out.trans (n.mono Jd.out.size));have Kh:=hid (Jz.out.up n n.size);have Jy:=hid (Jr.out.up n n.size);refine (Y.out L D T3).mono ?_;rintro e w8 ⟨g8,c8,rfl,q,p⟩;have Jp:=hid (Jb.out.trans (p.mono Jb.out.size));have Ju:=hid (Kh.out.up p p.size);have Kg:=hid (Jy.out.up p p.size);have Jq:=hid (Rd.of_own q);clear q p t3 n r T3 v;go_wp2_with fail;refine (y.out _ _ _ Jq.out).mono ?_;rintro e w7 ⟨g7,c7,rfl,f,o⟩;have Jh:=hid (Jp.out.trans (o.mono Jp.out.size));have Js:=hid (Ju.out.up o o.size);have Jt:=hid (Kg.out.up o o.size);have Jw:=hid (Q.out _ _ _ (Rd.of_own f));have hc7:=co f;clear f o;go_upto_region 5 with (fail)
 refine qM (S:=λX:World=>Below w7.heap.size w7 X) ((0,0,0)::(0,1,0)::(0,2,0)::(0,3,0)::(1,4,0)::(1,5,0)::(0,6,0)::(0,7,0)::(0,8,0)::(0,9,0)::(0,10,0)::(0,11,0)::(0,12,0)::(0,13,0)::(0,17,0)::(0,18,0)::(1,14,0)::(1,15,0)::(0,16,0)::(1,19,0)::(0,20,0)::(0,21,0)::[]) (.one _ true (none)::.one _ true (none)::.one _ true (none)::.one _ true (some (some 29,true))::.one _ false (some (some 29,true))::.one _ false (some (some 29,true))::.one _ true (none)::.one _ true (none)::.one _ true (some (some 34,true))::.one _ true (some (some 34,true))::.one _ true (none)::.one _ true (none)::.one _ true (some (some 38,true))::.one _ true (some (some 38,true))::.one _ true (some (some 38,true))::.one _ true (some (some 38,true))::.one _ false (some (some 38,true))::.one _ false (some (some 38,true))::.one _ true (some (some 38,true))::.one _ false (some (some 38,true))::.one _ true (none)::.one _ true (none)::[]) (by kernel_rfl) (by kernel_rfl) (by decide) (by show lD _ _ (((0,0,0)::(0,1,0)::(0,2,0)::(0,3,0)::(1,4,0)::(1,5,0)::(0,6,0)::(0,7,0)::(0,8,0)::(0,9,0)::[])++(((0,10,0)::(0,11,0)::(0,12,0)::(0,13,0)::(0,17,0)::(0,18,0)::(1,14,0)::(1,15,0)::(0,16,0)::(1,19,0)::[])++(((0,20,0)::(0,21,0)::[])))) _=true;refine dC _ (by as_aux_lemma=>kernel_rfl) ?_;refine dC _ (by as_aux_lemma=>kernel_rfl) ?_;(as_aux_lemma=>kernel_rfl)) (by rfl) (λ_ _ d _ _ h=>by cases d<;>exact h) (kqk _ _).drew ?_
 have E:=hid ((kqk w7.heap.size w7).drew);obtain⟨X0,Jc⟩:=xq w7.drew;rw[Jc] at E |-;clear Jc;have hne:Nonempty (SW (λX:World=>Below w7.heap.size w7 X)):=⟨⟨X0,E.out⟩⟩
 iterate 4 (first | (refine iJ (by rfl) ?_;(try simp only[Act.put,kqb,kqf,kqe])) | (refine lF (by rfl) ?_;intro K b;go_big_quiet_op;go_big_quiet_on))
 refine zA (by rfl) ?_;intro K b;go_big_op;refine (C.out X0).mono ?_;rintro e X1 ⟨g,d,rfl,O,N⟩;have u:=hid (E.out.trans (N.mono E.out.size));have U:=hid (Rd.of_own O);refine b _ _ u.out ?_;clear b K N O;(try simp only[Act.put,kqb,kqf,kqe]);refine zA (by rfl) ?_;intro K b;go_big_op;refine (Eq.out _ _ _ _ _ (Js.out.up u.out u.out.size) U.out).mono ?_;rintro e X2 ⟨rfl,N⟩;have a:=hid (u.out.trans (N.mono u.out.size));refine b _ _ a.out ?_;clear b K N;(try simp only[Act.put,kqb,kqf,kqe])
 iterate 10 (first | (refine iJ (by rfl) ?_;(try simp only[Act.put,kqb,kqf,kqe])) | (refine lF (by rfl) ?_;intro K b;go_big_quiet_op;go_big_quiet_on))
 (first | (refine iJ (by rfl) ?_;(try simp only[Act.put,kqb,kqf,kqe])) | (refine zA (by rfl) ?_;intro K b;go_big_op;refine b _ _ a.out ?_;clear b K;(try simp only[Act.put,kqb,kqf,kqe])))
 (first | (refine iJ (by rfl) ?_;(try simp only[Act.put,kqb,kqf,kqe])) | (refine zA (by rfl) ?_;intro K b;go_big_op;refine b _ _ a.out ?_;clear b K;(try simp only[Act.put,kqb,kqf,kqe])))
 iterate 1 (first | (refine iJ (by rfl) ?_;(try simp only[Act.put,kqb,kqf,kqe])) | (refine lF (by rfl) ?_;intro K b;go_big_quiet_op;go_big_quiet_on))
 refine zA (by rfl) ?_;intro K b;go_big_op;refine (T.out _ _ _ _ _ (Jt.out.up a.out a.out.size) (Jw.out.up a.out a.out.size)).mono ?_;rintro e X3 ⟨rfl,N⟩;have J:=hid (a.out.trans (N.mono a.out.size));refine b _ _ J.out ?_;clear b K N;(try simp only[Act.put,kqb,kqf,kqe])
 iterate 2 (first | (refine iJ (by rfl) ?_;(try simp only[Act.put,kqb,kqf,kqe])) | (refine lF (by rfl) ?_;intro K b;go_big_quiet_op;go_big_quiet_on))
 refine Er ?_;go_wp2;go_ret;exact⟨rfl,Jh.out.trans (J.out.mono Jh.out.size)⟩
end Go.Proofs.YtpcajamacpbjcaaGreat
