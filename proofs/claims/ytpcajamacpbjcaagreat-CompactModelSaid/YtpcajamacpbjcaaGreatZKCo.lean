/- Texts laid together: CoW CoE Form Al35. -/
import Derived.Test.YtpcajamacpbjcaaGreatZKLy2
import Derived.Test.YtpcajamacpbjcaaGreatZKCp2
import Derived.Test.YtpcajamacpbjcaaGreatZKNx
import Derived.Test.YtpcajamacpbjcaaGreatZKStg1
import Derived.Test.YtpcajamacpbjcaaGreatZKEff
import Derived.Test.YtpcajamacpbjcaaGreatZKSup
import Derived.Laws.CopyOwn
import Derived.Test.YtpcajamacpbjcaaGreatZKRun
import Derived.Test.YtpcajamacpbjcaaGreatZKStg3
import Derived.Test.YtpcajamacpbjcaaGreatZSameW
import Derived.Test.YtpcajamacpbjcaaGreatZKImage
import Derived.Test.YtpcajamacpbjcaaGreatZKR19
set_option maxHeartbeats 16000000
set_option maxRecDepth 100000
set_option linter.all false
namespace Go.Proofs.YtpcajamacpbjcaaGreat
open Lib (hid)
open Go.RowKit
variable {ws:List Nat}{n t:Nat}{w:World}
open Go.Proofs.Tryz
noncomputable def coL (ws:List Nat):List (List En):=if cH ws=0 then [⟨16,1⟩]::(rsE (ie ws)).2.1 else []
theorem mT(h:cH ws=0):al (ws.length:Int)=true/\lay ws=true:=by
 unfold cH at h;cases a:al (ws.length:Int)
 .rw[a] at h;cases h
 rw[a,if_pos rfl] at h;cases b:lay ws
 .rw[b] at h;cases h
 exact⟨rfl,rfl⟩
theorem na(h:Lay ws t):cH ws=0:=by unfold cH;rw[pQ h.ty,h.lay];rfl
theorem Lay.all(h:Lay ws t)(ho:∀v∈ws,v<18446744073709551616):gD (ie ws)=(0,(rsE (ie ws)).2.1,cpZ ws):=by unfold gD;rw[if_pos h.first.2.1];have:=(h.run ho).all;rw[this];rfl
theorem FJ(h:Lay ws t)(ho:∀v∈ws,v<18446744073709551616):(cpZ ws).length=ws.length:=(h.desc ho).1.len
theorem yD(A:Option Addr)(ws:List Nat)(c n:Nat)(w:World)(hn:ws.length=n)(hm:n<=9223372036854775807)(hc:n<=c)(hr:RdW w w.heap.size A ws)(ho:∀x∈ws,x<18446744073709551616):
 Calls prog 14 #[.slice A n c] w λe w'=>io w.heap.size (cH ws) (if cH ws=0 then [⟨16,1⟩] else []) e w'/\Below w.heap.size w w':=by
 have g:=hid (mM A ws c n w hn hm hc hr ho);obtain⟨r,b⟩:=xq (cH ws);rw[b] at g |-;clear hr ho hc hm hn b;by_cases d:r=0
 .subst d;rw[if_pos rfl];go_enter func14,ntmps14;go_wp2_with fail;refine g.out.mono ?_;rintro e f ⟨rfl,a⟩;have j:=hid (cB (n:=1) (sz:=2) f 89 #[.int .i64 16,.int .u64 1] (kqg _) (by rfl) (by unfold maxLen;omega));have i:=hid (a.alloc a.size (.cells #[.int .i64 16,.int .u64 1] 89));have h:=a.size;go_wp2;go_ret2;exact⟨⟨some ⟨f.heap.size,0,none⟩,1,rfl,aB j.out h⟩,i.out⟩
 rw[if_neg d];have e1:(r != 0)=true:=by rw[kqt];exact d
 clear d;go_enter func14,ntmps14;go_wp2_with fail;refine g.out.mono ?_;rintro e f ⟨rfl,a⟩;go_wp2;go_ret2;exact⟨bu rfl rfl,a⟩
def CoRes (ws:List Nat) (H:Nat) (e:Ending) (w':World):Prop:=∃(L:List Ch) (B:Option Addr) (d:Nat) (vx:Value),e=.returned (.tuple #[.slice B L.length d,vx,.int .i64 (cH ws)])/\L.map Ch.l=coL ws/\RdC w' w'.heap.size B L/\(∀x∈L,x.l.length<=32/\RdE w' w'.heap.size x.A x.l) /\
 (cH ws=0->∃g c,vx=.slice (some ⟨g,0,none⟩) ws.length c/\w'.ownsRow H 53 1 (.slice (some ⟨g,0,none⟩) ws.length c) ws.length ((cpZ ws).flatMap ai))/\(cH ws≠0->vx=.slice none 0 0)
theorem Ch.one:∀x:Ch,∀u∈x.cells,u.oneCell'=true:=λx u a=>by unfold Ch.cells at a;rw[kq1] at a;subst a;rfl
theorem sO(A:Option Addr)(ws:List Nat)(c n:Nat)(w:World)(hn:ws.length=n)(hm:n<=9223372036854775807)(hc:n<=c)(hr:RdW w w.heap.size A ws)(ho:∀x∈ws,x<18446744073709551616):
 Calls prog 50 #[.slice A n c] w λe w'=>CoRes ws w.heap.size e w'/\Below w.heap.size w w':=by
 subst hn;have D:=hid (yD A ws c ws.length w rfl hm hc hr ho);have HR:=hid hr;by_cases j:cH ws=0
 .obtain ⟨hs,hl⟩:=mT j;obtain⟨t,C⟩:=rb hl;rw[j,if_pos rfl] at D;unfold io at D;have hlen:=(ac _).1 hs;have F:=hid (λB d W (h:RdW W W.heap.size A ws) (h2:RdE W W.heap.size B [⟨16,1⟩])=>A0 A B ws [⟨16,1⟩] c d ws.length 1 W.heap.size W rfl rfl hs (by omega) (λe he=>by rw[kq1] at he;subst he;exact⟨by decide,by dsimp only;omega⟩) h h2 (kqg _));unfold OwnV at F;rw[show ak ws [⟨16,1⟩]=ie ws from rfl,iR] at F;have k:=hid (λB d W (hd:ws.length<=d) (h:RdW W W.heap.size B (ie ws))=>rAll_c B (ie ws) d ws.length W (iR ws) hm hd h (yF ho));unfold FV at k;rw[C.all ho,iR] at k;have o:(rsE (ie ws)).2.1.length<=3000:=by have h1:=uk (yF ho) (C.all ho);have:=h1.2.2.1;rw[iR] at this;omega
  have Q:Hid (∀E∈(rsE (ie ws)).2.1,E.length<=32):=hid λE hE=>by
   obtain⟨i,X,rfl⟩:=kqu hE;exact ((uk (yF ho) (C.all ho)).2.2.2.2.2 i X).le
  have Y:Hid (coL ws=[⟨16,1⟩]::(rsE (ie ws)).2.1):=hid (by unfold coL;rw[if_pos j]);have V:=hid j;obtain⟨u,hO⟩:=xq ((rsE (ie ws)).2.1);rw[hO] at k Y o Q;obtain⟨i0,X,J,U,N⟩:=kzt zX;have HI:=hid X;have Jf:=hid J;have Jd:=hid U;have Ja:=hid N;clear X J U N;clear hr ho j hs hl C hc hO;go_enter func50,ntmps50;go_wp2_with fail;refine D.out.mono ?_;rintro e w1 ⟨⟨I,K,rfl,a⟩,s⟩;have q:=hid s;have P:=hid (show RdE w1 w1.heap.size I [⟨16,1⟩] from Rd.of_own a);clear s a;go_wp2_with fail;refine (F.out _ _ _ (HR.out.up q.out q.out.size) P.out).mono ?_;rintro e w2 ⟨g2,c2,rfl,b,p⟩;have H:=hid (q.out.trans (p.mono q.out.size));have Je:=hid (P.out.up p p.size);have Z:=hid (show RdW w2 w2.heap.size _ (ie ws) from Rd.of_own b);have y:=fp b;clear p b;go_wp2_with fail;refine (k.out _ _ _ y Z.out).mono ?_;rintro e g ⟨⟨L,B,d,vx,rfl,C,hC,hv,-⟩,m⟩;obtain⟨g3,c3,rfl,-,R⟩:=hv trivial;have T:=hid (H.out.trans (m.mono H.out.size));have Eq:=hid (Je.out.up m m.size);have Jb:=hid (aB R H.out.size);have Jg:=hid (show RdC g g.heap.size B L from Rd.of_own hC.1);have Jc:=hid (λx z=>show RdE g g.heap.size x.A x.l from Rd.of_own (hC.2 x z));have hll:L.length<=3000:=by rw[<-C,kqs] at o;exact o
  have S:=hid C;clear m R hC C hv o y;go_wp2_with (at_builtin;refine aS _ (by rfl) _ _ 34 rfl g.heap.size 26 i0 _ 1 24 underlying34 HI.out Jf.out Jd.out Ja.out rfl (by decide) (.slice (some ⟨g.heap.size,0,none⟩) 1 1) 1 [.slice I 1 K] (by rfl) (cB (n:=1) (sz:=1) g 26 #[.slice I 1 K] (kqg _) (by rfl) (by unfold maxLen;omega)) g.heap.size B L.length d (L.flatMap Ch.cells) (by rfl) (by rw[bE Ch.cells 1 Ch.len]) (Rd.alloc Jg.out (kqg _) _) (cG Ch.one _) (by unfold maxLen;omega) (by omega) (by simp) ?_;intro v1 wa a O;have M:=bv ((kql g.heap.size g).alloc (kqg _) _) (by simp) (cB (n:=1) (sz:=1) g 26 #[.slice I 1 K] (kqg _) (by rfl) (by unfold maxLen;omega)) O;have v:=hid a;have f:=hid M;clear a M O);obtain⟨Bv,dv,rfl⟩:=aE v.out;go_ret3;refine⟨⟨⟨I,K,[⟨16,1⟩]⟩::L,Bv,dv,_,by rw[V.out,kzc,kj0];rfl,by rw[kxk,S.out,Y.out],Rd.of_own v.out,λx z=>?_,λ_=>⟨g3,c3,rfl,aj Jb.out f.out (kqg _)⟩,λh=>absurd V.out h⟩,T.out.trans (f.out.mono T.out.size)⟩;rcases kq0.1 z with rfl|z
  .exact ⟨by show 1<=32;decide,Eq.out.up f.out f.out.size⟩
  exact⟨Q.out _ (by rw[<-S.out];exact kz9 z),(Jc.out x z).up f.out f.out.size⟩
 rw[if_neg j] at D;have Y:Hid (coL ws=[]):=hid (by unfold coL;rw[if_neg j]);have V:=hid j;unfold io at D;obtain⟨r,G⟩:=xq (cH ws);have HQ:=hid G;rw[G] at D j;have e1:(r != 0)=true:=by rw[kqt];exact j
 clear hr ho j G;go_enter func50,ntmps50;go_wp2_with fail;refine D.out.mono ?_;rintro e w1 ⟨⟨I,K,rfl,-⟩,s⟩;go_wp2;go_ret3;exact⟨⟨[],none,0,_,by rw[HQ.out];rfl,by rw[Y.out];rfl,Rd.nil_,λx z=>absurd z (by simp),λh=>absurd h V.out,λ_=>rfl⟩,s⟩
def Fr (ws:List Nat) (H:Nat) (e:Ending) (w':World):Prop:=(cH ws=0->∃g c,e=.returned (.tuple #[.slice (some ⟨g,0,none⟩) ws.length c,.int .i64 0])/\w'.ownsRow H 53 1 (.slice (some ⟨g,0,none⟩) ws.length c) ws.length ((cpZ ws).flatMap ai))/\(cH ws≠0->e=.returned (.tuple #[.slice none 0 0,.int .i64 (cH ws)]))
theorem pz(A:Option Addr)(ws:List Nat)(c n:Nat)(w:World)(hn:ws.length=n)(hm:n<=9223372036854775807)(hc:n<=c)(hr:RdW w w.heap.size A ws)(ho:∀x∈ws,x<18446744073709551616):
 Calls prog 15 #[.slice A n c] w λe w'=>Fr ws w.heap.size e w'/\Below w.heap.size w w':=by
 subst hn;have l:=hid (sO A ws c ws.length w rfl hm hc hr ho);unfold CoRes at l;clear hr ho hm hc;go_enter func15,ntmps15;go_wp2_with fail;refine l.out.mono ?_;rintro e w1 ⟨⟨L,B,d,vx,rfl,-,-,-,j,k⟩,f⟩;have m:=hid j;have o:=hid k;clear j k;by_cases b:cH ws=0
 .obtain ⟨g,p,rfl,a⟩:=m.out b;have q:=hid a;have i:=hid b;rw[b];clear a b;go_wp2;go_ret2;exact⟨⟨λ_=>⟨g,p,rfl,q.out⟩,λh=>absurd i.out h⟩,f⟩
 obtain rfl:=o.out b;have i:=hid b;clear b;go_wp2;go_ret2;exact⟨⟨λh=>absurd h i.out,λ_=>rfl⟩,f⟩
def lW (ws:List Nat) (t:Nat):List Nat:=spL ws.length t++(spL ws.length t++ws.drop 16)
theorem ke(h:16<=ws.length):(lW ws t).length=ws.length:=by unfold lW;rw[kqw,kqw,pe,kxc];omega
theorem Hy{α:Type}{cur S:List α}(hS:S.length=8)(hn:16<=n):(splice (splice cur 0 S) 8 S).take n=S++(S++(cur.take n).drop 16):=by
 have b:splice cur 0 S=S++cur.drop 8:=by unfold splice;rw[kvl,kz5,hS]
 have a:splice (splice cur 0 S) 8 S=S++(S++cur.drop 16):=by rw[b];unfold splice;rw[List.take_append_of_le_length (by omega),kzg (by omega),hS,List.drop_append,List.drop_of_length_le (by omega),kz5,hS,kxz]
 rw[a,List.take_append,kzg (by omega),hS,List.take_append,kzg (by omega),hS,List.drop_take];congr 3
theorem wh(ws:List Nat)(k:Nat):(ws.drop k).flatMap ai=(ws.flatMap ai).drop k:=nU ai aZ ws k
theorem yX{H sz g c:Nat}{e:TypeId}{xs:List Value}(h:w.ownsRow H e sz (.slice (some ⟨g,0,none⟩) n c) n xs):∃a:List Value,w.heap[g]? = some (.cells a.toArray e (0,0))/\H<=g/\n<=c/\c<=maxLen/\a.length=c*sz/\a.take (n*sz)=xs:=by
 rcases h.2 with⟨b,-⟩|⟨g',cap,a,b,f,i,d,j,l,k⟩
 .cases b
 simp only[Value.slice.injEq,Option.some.injEq,Addr.mk.injEq,and_true,true_and] at b;obtain⟨rfl,rfl⟩:=b;exact⟨a.toList,by rw[i],f,d,j,by rw[kks,l],k⟩
theorem za{P:Program}{ops:Array Oper}{rest:List Oper}{a:Act}{Q:Exit->Act->World->Prop}{dst:Option Tmp}{type:TypeId}{pos:String}{after:Array Edge}{guard:Option (Nat × Bool)}{xs:Array Operand}{ts:Array TypeId}(h:wpList P ops Q ({ dst:=dst,op:=.call { callee:=.builtin .copy,args:=xs,argTypes:=ts },type:=type,pos:=pos,after:=after,guard:=guard }::rest) a w):wpList P ops Q ({ dst:=dst,op:=.call { callee:=.builtin .copy,args:=xs,argTypes:=ts },type:=type,pos:=pos,after:=after,guard:=guard }::rest) a w:=h
theorem Aq(b o j:Nat):(⟨b,o,none⟩:Addr).add j=⟨b,o+j,none⟩:=by unfold Addr.add;split<;>simp_all
theorem pP(A:Option Addr)(ws:List Nat)(c n t H:Nat)(w:World)(hn:ws.length=n)(h0:16<n)(hm:n<=1000000)(ht:t<=1000000)(hr:RdW w H A ws)(hH:H<=w.heap.size):
 Calls prog 61 #[.slice A n c,.int .i64 (t:Int)] w λe w'=>CY w (lW ws t) e w':=by
 have HR:=hid (hr.more hH);have HN:=hid hn;have Jd:=hid (iS ws);have K:=hid (λW=>lx n t W (by omega) (by omega));have s:Hid ((lW ws t).length=n):=hid (by rw[ke (by omega),hn]);have J:Hid ((lW ws t).flatMap ai=(spL n t).flatMap ai++((spL n t).flatMap ai++(ws.flatMap ai).drop 16)):=hid (by unfold lW;rw[hn,kxl,kxl,wh]);have u:=hid (cG l6 (spL n t));have q:((spL n t).flatMap ai).length=8:=by rw[iS];exact pe n t
 obtain⟨S,hS⟩:=xq ((spL n t).flatMap ai);rw[hS] at K J u q;have d:=hid q;obtain⟨b,Y,rfl,hb,-⟩:=RdW.at_ hr (show 0<ws.length by omega);clear hr hH hn hb hS q;obtain⟨i0,hi,x,o,C⟩:=kzt me;have HI:=hid hi;have Ja:=hid x;have U:=hid o;have Eq:=hid C;clear hi x o C;go_enter func61,ntmps61;go_wp2_with fail;refine (K.out w).mono ?_;rintro e f ⟨⟨AS,cS,rfl,a⟩,m⟩;have T:=hid m;obtain⟨bS,oS,rfl,Je,M⟩:=(Rd.of_own a) (λh=>by have:=d.out;rw[h] at this;cases this);have y:Hid (∀W,Below f.heap.size f W->∀j v,S[j]? = some v->W.cell? ((⟨bS,oS,none⟩:Addr).add j)=some v):=hid λW hb j v hv=>by
  obtain⟨hj,rfl⟩:=kq7.1 hv;rw[Aq];exact (hb.cell (p:=⟨bS,oS+j,none⟩) Je).trans (M j hj)
 have L:(prog.info? 53).map (·.size)=some 1:=by kernel_rfl
 have G:=hid L;have R:=hid (HR.out.up m m.size);have o:=m.size;clear m a M L;go_wp2_with (first
  | (at_builtin;refine aS _ (by rfl) _ _ 22 rfl f.heap.size 53 i0 _ 1 8 underlying22 HI.out Ja.out U.out Eq.out rfl (by decide) (.slice (some ⟨f.heap.size,0,none⟩) 0 0) 0 [] (by rfl) (dE f _ _ _ (kqg _)) f.heap.size (some ⟨b,Y,none⟩) n _ (ws.flatMap ai) (by rfl) (by rw[Jd.out,HN.out];omega) (Rd.alloc R.out (kqg _) _) (cG l6 _) (by unfold maxLen;omega) (by omega) (by simp) ?_;intro v1 wa a P;have B:=bv ((kql f.heap.size f).alloc (kqg _) _) (by simp) (dE f f.heap.size 53 1 (kqg _)) P;simp only[kxm,kz5] at a;obtain⟨g,c1,rfl⟩:=kA a (by omega);have HOWN:=hid a;have O:=hid B;obtain⟨i,F,r,Jf,Jb,D,l⟩:=yX a;have HG:=hid F;have k:=hid D;have Jc:=hid l;clear a B P F D l)
  | ((with_reducible refine za ?_);refine wpList_copy_splice rfl _ _ 22 22 rfl 53 underlying22 G.out _ _ _ _ _ _ rfl rfl g 0 i 53 HG.out S (by rw[d.out];exact (kxb (by omega)).symm) (λ_=>⟨rfl,_,rfl,y.out _ O.out⟩) (by rw[d.out,k.out];omega) u.out f.heap.size f O.out r ?_;intro w2 Q I;have N:=hid I;clear I)
  | ((with_reducible refine za ?_);refine wpList_copy_splice rfl _ _ 22 22 rfl 53 underlying22 G.out _ _ _ _ _ _ rfl rfl g 8 (splice i 0 S) 53 Q.out S (by rw[d.out];exact (kxb (by omega)).symm) (λ_=>⟨rfl,_,rfl,y.out _ N.out⟩) (by rw[length_splice _ _ _ (by rw[d.out,k.out];omega),d.out,k.out];omega) u.out f.heap.size f N.out r ?_;intro w3 X E;have Z:=hid E;clear E))
 go_ret;have z:(splice i 0 S).length=i.length:=length_splice _ _ _ (by rw[d.out,k.out];omega);have V:(splice (splice i 0 S) 8 S).length=i.length:=by rw[length_splice _ _ _ (by rw[z,d.out,k.out];omega),z]
 refine⟨g,c1,by rw[s.out];rfl,?_,T.out.trans (Z.out.mono o)⟩;rw[s.out];refine⟨by rw[iS,s.out,kxn],.inr ⟨g,c1,_,rfl,kza o r,X.out,Jf,Jb,?_,?_⟩⟩
 .rw[kjr,V,k.out]
 have l:=Jc.out;rw[kxn] at l |-;rw[Hy d.out (by omega),J.out,l]
def oC:List Nat:=lW nr 0
def b35L:List Nat:=nf 256 [[1]] [obj4 false] []
def tw:List Nat:=lW b35L 1
def j35L:List Nat:=nf 256 [[1]] [] []
def uP:List Nat:=lW j35L 1
theorem lq:oC.length=256:=by unfold oC;rw[ke (by rw[jk];omega),jk]
theorem tF:b35L.length=256:=by decide +kernel
theorem si:j35L.length=256:=by decide +kernel
theorem p9:tw.length=256:=by unfold tw;rw[ke (by rw[tF];omega),tF]
theorem Ce:uP.length=256:=by unfold uP;rw[ke (by rw[si];omega),si]
theorem EW:∀x∈oC,x<18446744073709551616:=by decide +kernel
theorem Ak:∀x∈tw,x<18446744073709551616:=by decide +kernel
theorem Ar:lay oC=true:=by decide +kernel
theorem sy:lay tw=true:=by decide +kernel
theorem F3:(om 20 12 (ie oC)).map (λr=>(r.1,r.2.2))=some (0,oC):=by decide +kernel
theorem GA:(om 20 12 (ie tw)).map (λr=>(r.1,r.2.2.take 130))=some (0,uP.take 130):=by decide +kernel
theorem Bi(h:lay ws=true):cH ws=0:=by obtain⟨t,h⟩:=rb h;exact na h
theorem EO{y:List Nat}{f k:Nat}{g:List Nat->List Nat}(hl:lay ws=true)(ho:∀v∈ws,v<18446744073709551616)(h:(om f k (ie ws)).map (λr=>(r.1,g r.2.2))=some (0,y)):g (cpZ ws)=y:=by
 obtain⟨t,c⟩:=rb hl;cases a:om f k (ie ws) with
 | none=>rw[a] at h;cases h
 | some r =>rw[a] at h;simp only[kzk,Option.some.injEq,Prod.mk.injEq] at h;have b:=yz (yF ho) a;have d:=(c.all ho).symm.trans b;clear b a;subst d;dsimp only at h;exact h.2
theorem f35_cp:cpZ oC=oC:=EO (g:=λx=>x) Ar EW F3
theorem AG:(cpZ tw).take 130=uP.take 130/\(cpZ tw).length=256:=by obtain⟨t,h⟩:=rb sy;exact⟨EO (g:=λx=>x.take 130) sy Ak GA,(FJ h Ak).trans p9⟩
theorem GW:∀k,k<1->fits 256 [[1]] [obj4 false] k:=by decide +kernel
theorem B3(w:World):Calls prog 40 #[] w λe w'=>CY w oC e w':=by have d:=hid (λW=>tr none none none [] [] [] 0 0 0 256 W.heap.size W (by omega) (by omega) RdT.nil_ (show (0:Nat)<=8 by decide) Rd.nil_ Rd.nil_ (show (0:Nat)<=16 by decide) (kqg _) (show (0:Nat)<=2048 by decide) (λk q=>absurd q (by simp)) (λk q=>absurd q (by simp)));have i:Hid (nf 256 (List.map Ty.l []) [] []=nr):=hid rfl;rw[i.out] at d;unfold CY at d;rw[jk] at d;have g:=hid (λA c W (h:RdW W W.heap.size A nr)=>pP A nr c 256 0 W.heap.size W jk (by omega) (by omega) (by omega) h (kqg _));rw[show lW nr 0=oC from rfl] at g;unfold CY at g |-;rw[lq] at g |-;simp only[kzb] at g;generalize oC=F at g |-;generalize nr=F0 at d g;clear i;go_enter func40,ntmps40;go_wp2_with fail;refine (d.out w).mono ?_;rintro e w1 ⟨g1,c1,rfl,b,j⟩;have f:=hid j;have n:=hid (Rd.of_own b);clear b j;go_wp2_with fail;refine (g.out _ _ _ n.out).mono ?_;rintro e w2 ⟨s,r,rfl,a,m⟩;have o:=hid (f.out.trans (m.mono f.out.size));have p:=hid (aB a f.out.size);clear a m;go_wp2;go_ret;exact⟨s,r,rfl,p.out,o.out⟩
theorem Bp(w:World):RdT ((w.alloc (.cells #[.int .u8 1] 5)).alloc (.cells #[.slice (some ⟨w.heap.size,0,none⟩) 1 1] 113)) (w.heap.size+1+1) (some ⟨w.heap.size+1,0,none⟩) [⟨some ⟨w.heap.size,0,none⟩,1,[1]⟩]:=by have c:=(Bx.new w 5 #[.int .u8 1]).alloc (.cells #[.slice (some ⟨w.heap.size,0,none⟩) 1 1] 113);have b:=Bx.new (w.alloc (.cells #[.int .u8 1] 5)) 113 #[.slice (some ⟨w.heap.size,0,none⟩) 1 1];simp only[kqn] at b;refine⟨Rd.of_bx b (by omega),λx a=>?_⟩;rw[kq1] at a;subst a;exact⟨Rd.of_bx c (by omega),show (1:Nat)<=8 by decide,show dd [1]=true by decide⟩
theorem nl(w:World):Calls prog 23 #[] w λe w'=>e=.returned (.bool true)/\Below w.heap.size w w':=by
 have z:=hid (λW=>B3 W);unfold CY at z;rw[lq] at z;have I:=hid (λA c W (hc:256<=c) (h:RdW W W.heap.size A oC)=>pz A oC c 256 W lq (by omega) hc h EW);have t:=hid (λA c W (hc:256<=c) (h:RdW W W.heap.size A tw)=>pz A tw c 256 W p9 (by omega) hc h Ak);unfold Fr at I t;rw[Bi Ar,f35_cp,lq] at I;rw[Bi sy,p9] at t;have U:=hid (λ(W X:World) (hT:RdT X X.heap.size (some ⟨W.heap.size+1,0,none⟩) [⟨some ⟨W.heap.size,0,none⟩,1,[1]⟩]) (hB:RdB X X.heap.size (some ⟨W.heap.size+1+1,0,none⟩) [obj4 false])=>tr (some ⟨W.heap.size+1,0,none⟩) (some ⟨W.heap.size+1+1,0,none⟩) none [⟨some ⟨W.heap.size,0,none⟩,1,[1]⟩] [obj4 false] [] 1 1 0 256 X.heap.size X (by omega) (by omega) hT (show (1:Nat)<=8 by decide) hB Rd.nil_ (show (0:Nat)<=16 by decide) (kqg _) (show (1:Nat)<=2048 by decide) (λk hk=>GW k hk) (λk hk=>absurd hk (by simp)))
 have Y:=hid (λ(W X:World) (hT:RdT X X.heap.size (some ⟨W.heap.size+1,0,none⟩) [⟨some ⟨W.heap.size,0,none⟩,1,[1]⟩])=>tr (some ⟨W.heap.size+1,0,none⟩) none none [⟨some ⟨W.heap.size,0,none⟩,1,[1]⟩] [] [] 1 0 0 256 X.heap.size X (by omega) (by omega) hT (show (1:Nat)<=8 by decide) Rd.nil_ Rd.nil_ (show (0:Nat)<=16 by decide) (kqg _) (show (0:Nat)<=2048 by decide) (λk hk=>absurd hk (by simp)) (λk hk=>absurd hk (by simp)));have q:=hid (λA c W (h:RdW W W.heap.size A b35L)=>pP A b35L c 256 1 W.heap.size W tF (by omega) (by omega) (by omega) h (kqg _));have v:=hid (λA c W (h:RdW W W.heap.size A j35L)=>pP A j35L c 256 1 W.heap.size W si (by omega) (by omega) (by omega) h (kqg _));simp only[kxk,List.map_nil] at U Y;rw[show lW b35L 1=tw from rfl] at q;rw[show lW j35L 1=uP from rfl] at v;unfold CY at U Y q v;rw[p9] at q;rw[Ce] at v;have Q:=hid (λA c B d W (h1:RdW W W.heap.size A oC) (h2:RdW W W.heap.size B oC)=>mX A B oC oC 256 256 c d W.heap.size W lq lq (by omega) h1 h2 (kqg _));rw[show decide (oC=oC)=true by simp] at Q
 have T:=hid (λA c B d W (h1:RdW W W.heap.size A ((cpZ tw).take 130)) (h2:RdW W W.heap.size B (uP.take 130))=>mX A B ((cpZ tw).take 130) (uP.take 130) 130 130 c d W.heap.size W (by rw[kq6,AG.2];rfl) (by rw[kq6,Ce];rfl) (by omega) h1 h2 (kqg _));rw[AG.1,show decide (uP.take 130=uP.take 130)=true by simp] at T;have P:Hid (∀W B A,RdW W B A (cpZ tw)->RdW W B A (uP.take 130)):=hid λW B A h=>by
  have:=h.take_ 130;rw[<-kV ai aZ,AG.1] at this;exact this
 have Eq:Hid (∀W B A,RdW W B A uP->RdW W B A (uP.take 130)):=hid λW B A h=>by
  have:=h.take_ 130;rw[<-kV ai aZ] at this;exact this
 generalize oC=F at z I Q;generalize uP.take 130=K3 at T P Eq;generalize cpZ tw=Z at t P;generalize uP=K5 at v Eq;generalize tw=CL at q t;have Jo:∀W:World,((W.alloc (.cells #[.int .u8 1] 5)).alloc (.cells #[.slice (some ⟨W.heap.size,0,none⟩) 1 1] 113)).heap.size=W.heap.size+1+1:=λW=>by simp
 have Jd:∀W:World,(((W.alloc (.cells #[.int .u8 1] 5)).alloc (.cells #[.slice (some ⟨W.heap.size,0,none⟩) 1 1] 113)).alloc (.cells #[.int .i64 0,.int .i64 4,.int .i64 1,.int .i64 0,.bool false,.int .u64 0] 55)).heap.size=W.heap.size+1+1+1:=λW=>by simp
 have Jk:=hid Jo;have Jr:=hid Jd;clear Jo Jd;go_enter func23,ntmps23;go_wp2_with fail;refine (z.out w).mono ?_;rintro e w1 ⟨g1,c1,rfl,l,Jl⟩;have Jj:=hid Jl;have R:=hid (Rd.of_own l);have Kb:=fp l;clear l Jl;go_wp2_with fail;refine (I.out _ _ _ Kb R.out).mono ?_;rintro e f ⟨⟨hv,-⟩,Ji⟩;obtain⟨g2,c2,rfl,x⟩:=hv trivial;have Jm:=hid (Jj.out.trans (Ji.mono Jj.out.size));have a:=hid (Rd.of_own x);clear hv x Ji;go_wp2_with fail;have V:=(Bp f).below (((kql (f.heap.size+1+1) ((f.alloc (.cells #[.int .u8 1] 5)).alloc (.cells #[.slice (some ⟨f.heap.size,0,none⟩) 1 1] 113))).alloc (by simp) (.cells #[.int .i64 0,.int .i64 4,.int .i64 1,.int .i64 0,.bool false,.int .u64 0] 55)));have x3:=Bx.new ((f.alloc (.cells #[.int .u8 1] 5)).alloc (.cells #[.slice (some ⟨f.heap.size,0,none⟩) 1 1] 113)) 55 #[.int .i64 0,.int .i64 4,.int .i64 1,.int .i64 0,.bool false,.int .u64 0];have o:=(((kql f.heap.size f).alloc (kqg _) (.cells #[.int .u8 1] 5)).alloc (by simp) (.cells #[.slice (some ⟨f.heap.size,0,none⟩) 1 1] 113)).alloc (by simp;omega) (.cells #[.int .i64 0,.int .i64 4,.int .i64 1,.int .i64 0,.bool false,.int .u64 0] 55);have r:=Jr.out f;rw[Jk.out f] at x3
 obtain⟨L,s⟩:∃L,((f.alloc (.cells #[.int .u8 1] 5)).alloc (.cells #[.slice (some ⟨f.heap.size,0,none⟩) 1 1] 113)).alloc (.cells #[.int .i64 0,.int .i64 4,.int .i64 1,.int .i64 0,.bool false,.int .u64 0] 55)=L:=⟨_,rfl⟩;rw[s] at V x3 o r |-;have T3:=V.more (show f.heap.size+1+1<=L.heap.size by omega);have Jn:=hid (Jm.out.trans (o.mono Jm.out.size));have H:=hid (a.out.up o o.size);refine (U.out f L T3 (show Rd _ _ _ _ from Rd.of_bx x3 x3.lt)).mono ?_;rintro e w4 ⟨g4,c4,rfl,y,J⟩;have Jb:=hid (Jn.out.trans (J.mono Jn.out.size));have Jp:=hid (H.out.up J J.size);have Ju:=hid (Rd.of_own y);clear y J V x3 o r T3 s;go_wp2_with fail;refine (q.out _ _ _ Ju.out).mono ?_;rintro e w5 ⟨g5,c5,rfl,i,E⟩;have Jh:=hid (Jb.out.trans (E.mono Jb.out.size));have Kd:=hid (Jp.out.up E E.size);have Js:=hid (Rd.of_own i);have Jv:=fp i;clear i E;go_wp2_with fail;refine (t.out _ _ _ Jv Js.out).mono ?_;rintro e D ⟨⟨hv,-⟩,M⟩;obtain⟨g6,c6,rfl,m⟩:=hv trivial;have Jg:=hid (Jh.out.trans (M.mono Jh.out.size));have Kg:=hid (Kd.out.up M M.size);have Ka:=hid (P.out _ _ _ (Rd.of_own m));have hc6:=fp m;clear hv m M;go_wp2_with fail;have V:=Bp D
 have o:=((kql D.heap.size D).alloc (kqg _) (.cells #[.int .u8 1] 5)).alloc (by simp) (.cells #[.slice (some ⟨D.heap.size,0,none⟩) 1 1] 113);have r:=Jk.out D;obtain⟨L,s⟩:∃L,(D.alloc (.cells #[.int .u8 1] 5)).alloc (.cells #[.slice (some ⟨D.heap.size,0,none⟩) 1 1] 113)=L:=⟨_,rfl⟩;rw[s] at V o r |-;have T3:=V.more (show D.heap.size+1+1<=L.heap.size by omega);have Jc:=hid (Jg.out.trans (o.mono Jg.out.size));have Jy:=hid (Kg.out.up o o.size);have Jt:=hid (Ka.out.up o o.size);refine (Y.out D L T3).mono ?_;rintro e w8 ⟨g8,c8,rfl,C,p⟩;have Je:=hid (Jc.out.trans (p.mono Jc.out.size));have Jz:=hid (Jy.out.up p p.size);have Kf:=hid (Jt.out.up p p.size);have Ke:=hid (Rd.of_own C);clear C p V o r T3 s;go_wp2_with fail;refine (v.out _ _ _ Ke.out).mono ?_;rintro e w7 ⟨g7,c7,rfl,j,n⟩;have Jf:=hid (Je.out.trans (n.mono Je.out.size));have Kc:=hid (Jz.out.up n n.size);have Jw:=hid (Kf.out.up n n.size);have Jq:=hid (Eq.out _ _ _ (Rd.of_own j));have hc7:=fp j;clear j n;go_upto_region 5 with (fail)
 refine nw (S:=λX:World=>Below w7.heap.size w7 X) ((0,0,0)::(0,1,0)::(0,2,0)::(0,3,0)::(1,4,0)::(1,5,0)::(0,6,0)::(0,7,0)::(0,8,0)::(0,9,0)::(0,10,0)::(0,11,0)::(0,12,0)::(0,13,0)::(0,17,0)::(0,18,0)::(1,14,0)::(1,15,0)::(0,16,0)::(1,19,0)::(0,20,0)::(0,21,0)::[]) (.one _ true (none)::.one _ true (none)::.one _ true (none)::.one _ true (some (some 29,true))::.one _ false (some (some 29,true))::.one _ false (some (some 29,true))::.one _ true (none)::.one _ true (none)::.one _ true (some (some 34,true))::.one _ true (some (some 34,true))::.one _ true (none)::.one _ true (none)::.one _ true (some (some 38,true))::.one _ true (some (some 38,true))::.one _ true (some (some 38,true))::.one _ true (some (some 38,true))::.one _ false (some (some 38,true))::.one _ false (some (some 38,true))::.one _ true (some (some 38,true))::.one _ false (some (some 38,true))::.one _ true (none)::.one _ true (none)::[]) (by kernel_rfl) (by kernel_rfl) (by decide) (by show k9 _ _ (((0,0,0)::(0,1,0)::(0,2,0)::(0,3,0)::(1,4,0)::(1,5,0)::(0,6,0)::(0,7,0)::(0,8,0)::(0,9,0)::[])++(((0,10,0)::(0,11,0)::(0,12,0)::(0,13,0)::(0,17,0)::(0,18,0)::(1,14,0)::(1,15,0)::(0,16,0)::(1,19,0)::[])++(((0,20,0)::(0,21,0)::[])))) _=true;refine nv _ (by as_aux_lemma=>kernel_rfl) ?_;refine nv _ (by as_aux_lemma=>kernel_rfl) ?_;(as_aux_lemma=>kernel_rfl)) (by rfl) (λ_ _ d _ _ h=>by cases d<;>exact h) (kql _ _).drew ?_
 have G:=hid ((kql w7.heap.size w7).drew);obtain⟨X0,Ja⟩:=xq w7.drew;rw[Ja] at G |-;clear Ja;have hne:Nonempty (SW (λX:World=>Below w7.heap.size w7 X)):=⟨⟨X0,G.out⟩⟩
 iterate 4 (first | (refine dP (by rfl) ?_;(try simp only[Act.put,kqa,kqf,kqd])) | (refine ic (by rfl) ?_;intro K b;go_big_quiet_op;go_big_quiet_on))
 refine sU (by rfl) ?_;intro K b;go_big_op;refine (z.out X0).mono ?_;rintro e X1 ⟨g,d,rfl,N,O⟩;have u:=hid (G.out.trans (O.mono G.out.size));have R:=hid (Rd.of_own N);refine b _ _ u.out ?_;clear b K O N;(try simp only[Act.put,kqa,kqf,kqd]);refine sU (by rfl) ?_;intro K b;go_big_op;refine (Q.out _ _ _ _ _ (Kc.out.up u.out u.out.size) R.out).mono ?_;rintro e X2 ⟨rfl,O⟩;have a:=hid (u.out.trans (O.mono u.out.size));refine b _ _ a.out ?_;clear b K O;(try simp only[Act.put,kqa,kqf,kqd])
 iterate 10 (first | (refine dP (by rfl) ?_;(try simp only[Act.put,kqa,kqf,kqd])) | (refine ic (by rfl) ?_;intro K b;go_big_quiet_op;go_big_quiet_on))
 (first | (refine dP (by rfl) ?_;(try simp only[Act.put,kqa,kqf,kqd])) | (refine sU (by rfl) ?_;intro K b;go_big_op;refine b _ _ a.out ?_;clear b K;(try simp only[Act.put,kqa,kqf,kqd])))
 (first | (refine dP (by rfl) ?_;(try simp only[Act.put,kqa,kqf,kqd])) | (refine sU (by rfl) ?_;intro K b;go_big_op;refine b _ _ a.out ?_;clear b K;(try simp only[Act.put,kqa,kqf,kqd])))
 iterate 1 (first | (refine dP (by rfl) ?_;(try simp only[Act.put,kqa,kqf,kqd])) | (refine ic (by rfl) ?_;intro K b;go_big_quiet_op;go_big_quiet_on))
 refine sU (by rfl) ?_;intro K b;go_big_op;refine (T.out _ _ _ _ _ (Jw.out.up a.out a.out.size) (Jq.out.up a.out a.out.size)).mono ?_;rintro e X3 ⟨rfl,O⟩;have H:=hid (a.out.trans (O.mono a.out.size));refine b _ _ H.out ?_;clear b K O;(try simp only[Act.put,kqa,kqf,kqd])
 iterate 2 (first | (refine dP (by rfl) ?_;(try simp only[Act.put,kqa,kqf,kqd])) | (refine ic (by rfl) ?_;intro K b;go_big_quiet_op;go_big_quiet_on))
 refine Af ?_;go_wp2;go_ret;exact⟨rfl,Jf.out.trans (H.out.mono Jf.out.size)⟩
end Go.Proofs.YtpcajamacpbjcaaGreat
