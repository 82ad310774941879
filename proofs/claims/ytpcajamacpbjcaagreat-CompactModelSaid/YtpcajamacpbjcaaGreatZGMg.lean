/- The model of a right image is right. -/
import Derived.Test.YtpcajamacpbjcaaGreatZGMa
import Derived.Test.YtpcajamacpbjcaaGreatZGMb
import Derived.Test.YtpcajamacpbjcaaGreatZGMc
import Derived.Test.YtpcajamacpbjcaaGreatZChP
import Derived.Test.YtpcajamacpbjcaaGreatZGMf
import Derived.Test.YtpcajamacpbjcaaGreatZKCo
import Derived.Test.YtpcajamacpbjcaaGreatZKRch
set_option maxHeartbeats 16000000
set_option maxRecDepth 100000
set_option linter.all false
namespace Go.Proofs.YtpcajamacpbjcaaGreat
open Go.RowKit
variable {m:Md}{t:Nat}
open Go.Proofs.Tryz
section
variable {ws:List Nat} {t:Nat}
theorem gh(h0:af ws=0){b:Bk}(hb:b∈objs (aa ws)):∃a,b=bkAt ws a/\cb ws a:=by obtain⟨c,d⟩:=kzv.1 hb;obtain⟨k,h,e⟩:=kqu c;obtain⟨a,f,g⟩:=ju h0 h (by rw[e];simpa using d);exact⟨a,e ▸ f,g⟩
theorem ud(h0:af ws=0):(objs (aa ws)).length<=960:=by
 have hb:=(ac _).1 (ao h0).1;have h:((objs (aa ws)).map λb=>(b.at_.toNat-128)/2).Nodup:=by unfold List.Nodup;rw[kxt];refine List.Pairwise.imp_of_mem (λ{x y} g l f=>?_) (mj h0);obtain⟨a,rfl,d⟩:=gh h0 g;obtain⟨c,rfl,i⟩:=gh h0 l;rw[ab,ab] at f |-;have j:=d.1;have h2:=d.2.1;have k:=i.1;have h4:=i.2.1;omega
 have:=jW h (n:=960) λx g=>by
  obtain⟨b,e,rfl⟩:=kzi.1 g;obtain⟨a,rfl,d⟩:=gh h0 e;rw[ab];have j:=d.1;have k:=d.2.2.1;omega
 rwa [kqs] at this
theorem Lay.mdOk(h:Lay ws t)(ho:∀v∈ws,v<18446744073709551616):MdOk (mdl ws t):=by
 have ht8:=m9 h.ty;refine⟨?_,?_,?_,?_,?_,?_⟩
 .show (eB ws t 8).length<=8;rw[jZ];omega
 .intro F o;have o:F∈eB ws t 8:=o;unfold eB at o;obtain⟨i,-,rfl⟩:=kzi.1 o;exact kD _ _
 .show ((objs (aa ws)).map _).length<=960;rw[kqs];exact ud h.hp
 .show ((List.range 16).map _).length=16;simp
 .intro x p;have p:x∈(objs (aa ws)).map λb=>obM ws (objs (aa ws)) b.at_.toNat:=p;obtain⟨b,G,rfl⟩:=kzi.1 p;obtain⟨a,rfl,r⟩:=gh h.hp G;rw[ab,kqk];obtain⟨-,-,g3,u,g5,D⟩:=h.obj r;refine⟨(ah (wd ws a)).typ.toNat,flds ws a,?_,u,?_,?_,?_⟩
  .show (ah (wd ws a)).typ=_;unfold ah;dsimp only;omega
  .unfold obM;simp
  .unfold obM;simp only[kqs,kx4];exact pr ws a
  intro i g;have E:(objs (aa ws)).length=(mdl ws t).objs.length:=by unfold mdl;simp
  have m:i<(flds ws a).length:=by unfold obM at g;simpa using g
  have e:(obM ws (objs (aa ws)) a).fl[i]=xT ws (objs (aa ws)) (flds ws a) a i:=by have:=uf (ws:=ws) (objs (aa ws)) m;unfold fdO at this;rw[kqj g] at this;exact this
  rw[e];by_cases l:(flds ws a)[i]? = some 3/\wd ws (a+2+i)≠0
  .obtain ⟨A,y⟩:=h.fld r l.1 l.2;have C:=(jJ h.hp A).1;have q4:=ud h.hp;rw[y];refine⟨by omega,λf=>?_,λ_=>by omega⟩;rw[l.1] at f;cases f
  rw[EN l];refine⟨fd ho _,λf=>?_,λz=>?_⟩
  .have k:=D 10 (by omega) (by omega);unfold wrB at k;rw[if_neg (by omega),if_neg (by omega),if_neg (by omega),u,kq2,kx5] at k;have j:=k i (kq8.2 m);unfold wrF at j;rw[if_pos rfl,f] at j
   simpa using j
  have:wd ws (a+2+i)=0:=by
   by_cases w:wd ws (a+2+i)=0
   .exact w
   exact absurd ⟨z,w⟩ l
  omega
 intro s q;have q:s∈(List.range 16).map λi=>slM (objs (aa ws)) (slAt ws i):=q;obtain⟨i,g,rfl⟩:=kzi.1 q;have g:=kq8.1 g;have E:(objs (aa ws)).length=(mdl ws t).objs.length:=by unfold mdl;simp
 have d:=(bQ ws).1 h.sls i g;have c:=dt (wd ws (112+i));have c:0<=(slAt ws i).gen/\(slAt ws i).gen<=2147483647/\_:=c;cases n:(slAt ws i).used with
 | false =>rw[slM_no n];unfold lL at d;rw[n,if_neg (by simp)] at d;refine⟨c.1,c.2.1,λ_=>by simpa using d,λf=>by rw[n] at f;cases f⟩
 | true =>
  obtain⟨a,e1,B,H⟩:=h.slotM g n;have C:=(jJ h.hp B).1;unfold lL at d;rw[n,if_pos rfl,kqz,kzz] at d;rw[H];unfold BR;dsimp only;refine⟨c.1,c.2.1,λf=>?_,λ_=>⟨d.1,?_,?_⟩⟩
  .cases f
  .omega
  omega
end
structure CmF (w z:List Nat):Prop where
 ln:(aR z).length=(aR w).length
 at_:∀k (h1:k<(aR w).length) (h2:k<(aR z).length),∃a b:Nat,(aR w)[k]=(a:Int)/\(aR z)[k]=(b:Int)/\cb w a/\cb z b/\(bkAt z b).typ=(bkAt w a).typ/\(bkAt z b).size=(bkAt w a).size/\b<=a
 no:(objs (aa z)).length=(aR w).length
theorem CpR.cm{w z:List Nat}(R:CpR w z t):CmF w z:=by
 have f:=R.V.fst;have n:=R.out;have d:(aR z).length=(aR w).length:=by rw[n,<-f,kqs,kqs]
 refine⟨d,λk h v=>?_,?_⟩
 .have c:k<(cpM w).length:=by rw[<-f,kqs] at h;exact h
  have o:(aR w)[k]=(cpM w)[k].1:=by
   have:(aR w)[k]? = some (cpM w)[k].1:=by rw[<-f,kzh,kqj c];rfl
   rw[kqj h] at this;exact Option.some.inj this
  have r:(aR z)[k]=(cpM w)[k].2:=by
   have:(aR z)[k]? = some (cpM w)[k].2:=by rw[n,kzh,kqj c];rfl
   rw[kqj v] at this;exact Option.some.inj this
  obtain⟨m,a,e,-⟩:=R.D.obj _ (kqm c);rw[e] at o r;have g:ed (cpM w) (m:Int)=some (a:Int):=(dI R.V.inc).2 (e ▸ kqm c);obtain⟨y,q,q3,-,-,-,B,-⟩:=R.at_ g;have u:Rch w m:=by
   obtain⟨l,C,-,i⟩:=(cO R.L.rc (m:Int)).1 (by rw[<-f];exact kzi.2 ⟨_,e ▸ kqm c,rfl⟩);have:m=l:=by omega
   exact this ▸ i
  refine⟨m,a,o,r,y,R.obj.2 ⟨m,u,g⟩,?_,?_,B⟩
  .unfold bkAt;dsimp only;rw[q]
  unfold bkAt;dsimp only;rw[q]
 have e:(objs (aa z)).map Bk.at_=aR z:=by
  refine sq (by rw[kxt];exact mj R.hp.1) (kp R.lay.rc) λx=>?_;rw[n,kzi,kzi];constructor
  .rintro ⟨b,A,rfl⟩;obtain⟨a,rfl,s⟩:=gh R.hp.1 A;obtain⟨m,-,c⟩:=R.obj.1 s;exact⟨_,(dI R.V.inc).1 c,by rw[ab]⟩
  rintro ⟨p,hp,rfl⟩;obtain⟨m,a,rfl,-⟩:=R.D.obj _ hp;have g:ed (cpM w) (m:Int)=some (a:Int):=(dI R.V.inc).2 hp;obtain⟨l,C,-,i⟩:=(cO R.L.rc (m:Int)).1 (by rw[<-f];exact kzi.2 ⟨_,hp,rfl⟩);have j:m=l:=by omega
  exact⟨bkAt z a,tu (R.obj.2 ⟨m,j ▸ i,g⟩),ab _ _⟩
 have:=congrArg List.length e;rw[kqs] at this;rw[this,d]
theorem AI(adj:Nat->List Nat):∀f o n,o.Nodup->(kX adj f o n).Nodup:=by
 intro f
 induction f with
 | zero=>intro o n h;exact h
 | succ f ih =>
  intro o n h;by_cases c:n∈o
  .rw[zK c];exact h
  rw[y7 c];have d:∀(l:List Nat) o,o.Nodup->(l.foldl (kX adj f) o).Nodup:=by
   intro l
   induction l with
   | nil=>intro o h;exact h
   | cons x l ihl=>intro o h;exact ihl _ (ih o x h)
  refine d _ _ ?_;rw[List.nodup_append];exact⟨h,by simp,λa g b e=>by rw[kq1] at e;rintro rfl;exact c (e ▸ g)⟩
theorem dfs_in{adj:Nat->List Nat}{S:Nat->Prop}(hcl:∀n,S n->∀k∈adj n,S k):∀f o n,(∀x∈o,S x)->S n->∀x∈kX adj f o n,S x:=by intro f o n d c;have:=(Ca (A:=adj) (B:=adj) (g:=id) hcl (λn _=>by simp) (λa b _ _ h=>h) f o n d c).2;exact this
theorem ord_in(hcl:∀n,n<m.objs.length->∀k∈oZ m n,k<m.objs.length)(d:∀s∈m.slots,s.used=true->s.at_.toNat<m.objs.length):(d9 m).Nodup/\∀x∈d9 m,x<m.objs.length:=by
 unfold d9 jA;have f:∀(l:List Sl) (o:List Nat),(∀s∈l,s.used=true->s.at_.toNat<m.objs.length)->o.Nodup->(∀x∈o,x<m.objs.length)->(l.foldl (λo s=>if s.used=true then kX (oZ m) 2048 o s.at_.toNat else o) o).Nodup/\∀x∈l.foldl (λo s=>if s.used=true then kX (oZ m) 2048 o s.at_.toNat else o) o,x<m.objs.length:=by
  intro l
  induction l with
  | nil=>intro o _ b c;exact⟨b,c⟩
  | cons s l ih =>
   intro o g b c;have a:=λs d=>g s (kzj _ d);rw[kkg];by_cases e:s.used=true
   .rw[if_pos e];exact ih _ a (AI _ _ _ _ b) (dfs_in (S:=λx=>x<m.objs.length) hcl _ _ _ c (g s (by simp) e))
   rw[if_neg e];exact ih _ a b c
 exact f _ _ d List.nodup_nil (λx h=>by cases h)
theorem MdOk.ord(h:MdOk m):(d9 m).Nodup/\∀x∈d9 m,x<m.objs.length:=by
 refine ord_in (λn f k b=>?_) (λs p q=>?_)
 .unfold oZ at b;rw[kqj f] at b;dsimp only at b;unfold CD at b;obtain⟨i,hi,a⟩:=kjm.1 b;split at a
  .rename_i hc;injection a with a;obtain⟨T,F,g,j,l⟩:=h.ob _ (kqm f);have d:=hc.1;unfold qi at d;rw[g,kqk,j,kq2,kqx] at d;have c:=hc.2;unfold fdO at c a;by_cases e:i<m.objs[n].fl.length
   .rw[kqj e,kq2] at c a;have:=(l.2.2 i e).2.2 d;omega
   rw[kzd (by omega)] at c;exact absurd rfl c
  cases a
 obtain⟨-,-,-,o⟩:=h.sl s p;have:=o q;omega
theorem MdOk.ord9(h:MdOk m):(d9 m).length<=960:=kza (jW h.ord.1 h.ord.2) h.o9
theorem MdOk.can(h:MdOk m):(rR m).types.length<=1000000/\(rR m).objs.length<=1000000/\(rR m).slots.length<=1000000/\∀x∈(rR m).objs,x.fl.length<=1000000:=by have h8:=h.t8;have h9:=h.ord9;have h6:=h.s16;unfold rR;dsimp only;refine⟨by omega,by rw[kqs];omega,by rw[kqs];omega,λx b=>?_⟩;obtain⟨k,d,rfl⟩:=kzi.1 b;have a:=h.ord.2 k d;rw[kqj a,kq2];obtain⟨T,F,-,-,c⟩:=h.ob _ (kqm a);unfold kW;simp only[kqs,kx4];have:=c.2.1;omega
open Lib (hid)
theorem vk(ws:List Nat):(aR ws).length<=ws.length:=by
 unfold aR;split
 .rw[kqs];refine kza (kxi _ _) ?_;rw[kx4];exact kqg _
 exact kqy _
theorem yr(ws:List Nat)(a:Nat):blkV (bkAt ws a)=.agg #[.int .i64 (a:Int),.int .i64 (bkAt ws a).size,.int .i64 (bkAt ws a).kind,.int .i64 (bkAt ws a).typ,.bool (bkAt ws a).mark,.int .u64 ((bkAt ws a).next:Int)]:=by
 have h:=ab ws a;cases b:bkAt ws a with
 | mk q1 q2 q3 q4 q5 q6 =>rw[b] at h;dsimp only at h;subst h;rfl
def FdTwo (A:Option Addr) (ws Z:List Nat) (c n:Nat) (p q:Int):Prop:=∃(a b:Nat) (s kd ty:Int) (mk:Bool) (nx:Nat) (kd2:Int) (mk2:Bool) (nx2:Nat),p=(a:Int)/\q=(b:Int)/\b<=a /\
 (∀W,RdW W W.heap.size A ws->Calls prog 32 #[.slice A n c,.int .i64 (a:Int)] W λe w'=>e=.returned (.tuple #[.agg #[.int .i64 (a:Int),.int .i64 s,.int .i64 kd,.int .i64 ty,.bool mk,.int .u64 (nx:Int)],.int .i64 0])/\Below W.heap.size W w') /\
 ∀B d W,RdW W W.heap.size B Z->Calls prog 32 #[.slice B n d,.int .i64 (b:Int)] W λe w'=>e=.returned (.tuple #[.agg #[.int .i64 (b:Int),.int .i64 s,.int .i64 kd2,.int .i64 ty,.bool mk2,.int .u64 (nx2:Int)],.int .i64 0])/\Below W.heap.size W w'
theorem fd_two{A:Option Addr}{ws Z:List Nat}(c:Nat)(hm:ws.length<=9223372036854775807)(L:Lay ws t)(LZ:Lay Z t)(hzl:Z.length=ws.length)(F:CmF ws Z)(ho:∀x∈ws,x<18446744073709551616)(hzo:∀x∈Z,x<18446744073709551616):∀k (f:k<(aR ws).length) (g:k<(aR Z).length),FdTwo A ws Z c ws.length ((aR ws)[k]'f) ((aR Z)[k]'g):=by
 intro k f g;obtain⟨a,b,i,m,n,l,j,o,e⟩:=F.at_ k f g;refine⟨a,b,(bkAt ws a).size,(bkAt ws a).kind,(bkAt ws a).typ,(bkAt ws a).mark,(bkAt ws a).next,(bkAt Z b).kind,(bkAt Z b).mark,(bkAt Z b).next,i,m,e,λW h=>?_,λB d W h=>?_⟩
 .have:=EX A ws c ws.length t a W rfl hm L n h ho;rw[yr] at this;exact this
 have:=EX B Z d ws.length t b W hzl hm LZ l h hzo;rw[yr,j,o] at this;exact this
theorem lo(A:Option Addr)(ws:List Nat)(c n:Nat)(w:World)(hn:ws.length=n)(hm:n<=9223372036854775807)(hc:n<=c)(hr:RdW w w.heap.size A ws)(ho:∀x∈ws,x<18446744073709551616):
 Calls prog 6 #[.slice A n c] w λe w'=>e=.returned (.bool true)/\Below w.heap.size w w':=by
 subst hn;have HR:=hid hr;have HG:=hid (λW=>yf A ws.length c W hm);have T:=hid (λW (h:RdW W W.heap.size A ws)=>n9 A ws c ws.length W rfl hm hc h ho);cases hg:oA ws.length
 .rw[hg] at HG;by_cases h0:cH ws=0
  .obtain ⟨hs,hl⟩:=mT h0;obtain⟨t,L⟩:=rb hl;have R:=L.cp ho;have z:=L.lt ho;have E:(cpZ ws).length=ws.length:=(L.desc ho).1.len;have hb:=(ac _).1 hs;have HV:=hid (λW (h:RdW W W.heap.size A ws)=>pz A ws c ws.length W rfl hm hc h ho);unfold Fr at HV;rw[h0] at HV;generalize cpZ ws=Z at *;have F:=R.cm;have LZ:=R.lay;rw[h0] at T;have Jn:=hid (λB d W (hd:ws.length<=d) (h:RdW W W.heap.size B Z)=>mM B Z d ws.length W E hm hd h z);have Jj:=hid (λB d W (hd:ws.length<=d) (h:RdW W W.heap.size B Z)=>n9 B Z d ws.length W E hm hd h z);rw[na LZ] at Jn Jj;have Jc:=hid (λW (h:RdW W W.heap.size A ws)=>ov A ws c ws.length W rfl hm h ho);have X:=hid (λB d W (h:RdW W W.heap.size B Z)=>ov B Z d ws.length W E hm h z);unfold y6 at Jc X;rw[L.rc] at Jc;rw[LZ.rc,F.ln] at X;have Ke:=hid (fd_two c hm L LZ E F ho z (A:=A));have Lg:=hid F.ln;have Kx:=hid (λW (h:RdW W W.heap.size A ws)=>Fg A ws c ws.length t W rfl hm hc L h ho);have Lh:=hid (λB d W (hd:ws.length<=d) (h:RdW W W.heap.size B Z)=>Fg B Z d ws.length t W E hm hd LZ h z);have Jm:=L.mdOk ho;have Kn:=LZ.mdOk z;have Jg:=R.canon;have Jy:(mdl Z t).objs.length=(aR ws).length:=by rw[<-F.no];show ((objs (aa Z)).map _).length=_;rw[kqs]
   have Lb:=hid Jy;obtain⟨z1,z2,z3,z4⟩:=Jm.can;have La:=hid (λv W (h:qh W v (mdl ws t))=>AO v (mdl ws t) W h Jm);have Js:=hid (λv W (h:qh W v (mdl Z t))=>AO v (mdl Z t) W h Kn);rw[Jg] at Js;have Lf:=hid (λv1 v2 W (h1:qh W v1 (rR (mdl ws t))) (h2:qh W v2 (rR (mdl ws t)))=>DZ v1 v2 (rR (mdl ws t)) W h1 h2 z1 z2 z3 z4);have hlr:(aR ws).length<=2048:=by have:=vk ws;omega
   clear hs hl hb h0 hr ho L LZ E z F hg R Jm Kn Jg z1 z2 z3 z4 Jy;generalize (mdl Z t)=N at *;generalize mdl ws t=M at *;generalize rR M=K at *;go_enter func6,ntmps6;go_wp2_with fail;refine (nl w).mono ?_;rintro e w1 ⟨rfl,u⟩;have f:=hid u;clear u;go_wp2_with fail;refine (HG.out _).mono ?_;rintro e w1' ⟨rfl,rfl⟩;go_wp2_with fail;refine (T.out _ (HR.out.up f.out f.out.size)).mono ?_;rintro e w2 ⟨rfl,J⟩;have g:=hid (f.out.trans (J.mono f.out.size));clear J;go_wp2_with fail;refine (HV.out _ (HR.out.up g.out g.out.size)).mono ?_;rintro e w3 ⟨⟨hv,-⟩,Jz⟩;obtain⟨g3,c3,rfl,C⟩:=hv trivial;have D:=hid (g.out.trans (Jz.mono g.out.size));have Jl:=hid (show RdW _ _ _ Z from Rd.of_own C);have Jq:=fp C;clear hv C Jz;go_wp2_with fail;refine (Jn.out _ _ _ Jq Jl.out).mono ?_;rintro e w4 ⟨rfl,Eq⟩;have m:=hid (D.out.trans (Eq.mono D.out.size));have Jo:=hid (Jl.out.up Eq Eq.size);clear Eq;go_wp2_with fail;refine (Jj.out _ _ _ Jq Jo.out).mono ?_;rintro e w5 ⟨rfl,Y⟩;have o:=hid (m.out.trans (Y.mono m.out.size));have Km:=hid (Jo.out.up Y Y.size);clear Y;go_wp2_with fail;refine (Jc.out _ (HR.out.up o.out o.out.size)).mono ?_;rintro e w6 ⟨⟨A6,c6,rfl,Kh,-⟩,Jf⟩;have G:=hid (o.out.trans (Jf.mono o.out.size));have Jk:=hid (Km.out.up Jf Jf.size);have Ki:=hid Kh
   clear Kh Jf;go_wp2_with fail;refine (X.out _ _ _ Jk.out).mono ?_;rintro e w7 ⟨⟨A7,c7,rfl,Kf,-⟩,I⟩;have j:=hid (G.out.trans (I.mono G.out.size));have Jr:=hid (Jk.out.up I I.size);have Jt:=hid (show RdI _ _ _ _ from Ki.out.up I I.size);have Kb:=hid Kf;clear Kf I;clear HG T HV Jn Jj Jc X f g D m o G Jl Jo Km Jk Ki;go_wp2_with fail;go_loopw [10] (λi wr=>∃k:Nat,k<=(aR ws).length/\i=.int .i64 k/\Below w7.heap.size w7 wr) (λi _=>(aR ws).length-(intOf i).toNat)
   case atStart=>exact⟨0,kqy _,rfl,kql _ _⟩
   obtain⟨k,hk,rfl,hB⟩:=hrel;have hz:=hB.size;by_cases H:k<(aR ws).length
   .have P:k<(aR Z).length:=by rw[Lg.out];exact H
    obtain⟨a,b,s,kd,ty,mk,nx,kd2,mk2,nx2,e1,e2,Ku,f1,f2⟩:=Ke.out k H P;obtain⟨ba,oa,rfl,Kt,p0⟩:=RdI.at_ Jt.out H;obtain⟨bb,ob,rfl,Kw,r0⟩:=RdI.at_ Kb.out P;rw[e1] at p0;rw[e2] at r0;have F1:=hid f1;have F2:=hid f2;have P0:=hid p0;have R0:=hid r0;have p0:=(hB.cell (p:=⟨ba,oa+k,none⟩) Kt).trans P0.out;have hki:(k:Int)<((aR ws).length:Int):=by omega
    have hk0:(0:Int)<=(k:Int):=by omega
    have hgt:decide ((a:Int)<(b:Int))=false:=by rw[kqh];omega
    have hgn:decide (a<b)=false:=by rw[kqh];omega
    have HB:=hid hB;clear f1 f2 r0 e1 e2 H P hB Ku;go_wp2_with fail;refine (F1.out _ (HR.out.up (j.out.trans (HB.out.mono j.out.size)) (kza j.out.size hz))).mono ?_;rintro e x1 ⟨rfl,y⟩;have bx1:=Bx.new x1 55 #[.int .i64 (a:Int),.int .i64 s,.int .i64 kd,.int .i64 ty,.bool mk,.int .u64 (nx:Int)];have Ji:=(HB.out.trans (y.mono hz)).alloc (kza hz y.size) (.cells #[.int .i64 (a:Int),.int .i64 s,.int .i64 kd,.int .i64 ty,.bool mk,.int .u64 (nx:Int)] 55);have Kd:(x1.alloc (.cells #[.int .i64 (a:Int),.int .i64 s,.int .i64 kd,.int .i64 ty,.bool mk,.int .u64 (nx:Int)] 55)).heap.size=x1.heap.size+1:=by simp
    have HSZ:=hid Kd;have BX1:=hid bx1;have U:=hid Ji;have r0:=(Ji.cell (p:=⟨bb,ob+k,none⟩) Kw).trans R0.out;clear bx1 Kd Ji y;go_wp2_with fail;refine (F2.out _ _ _ (Jr.out.up U.out U.out.size)).mono ?_;rintro e x2 ⟨rfl,l⟩;obtain⟨t0,t1,t2,t3,t4,t5,-⟩:=((BX1.out.up l BX1.out.lt).alloc (.cells #[.int .i64 (b:Int),.int .i64 s,.int .i64 kd2,.int .i64 ty,.bool mk2,.int .u64 (nx2:Int)] 55)).c6;obtain⟨v0,v1,v2,v3,v4,v5,-⟩:=(Bx.new x2 55 #[.int .i64 (b:Int),.int .i64 s,.int .i64 kd2,.int .i64 ty,.bool mk2,.int .u64 (nx2:Int)]).c6;have Ks:=hid ((U.out.trans (l.mono U.out.size)).alloc (kza U.out.size l.size) (.cells #[.int .i64 (b:Int),.int .i64 s,.int .i64 kd2,.int .i64 ty,.bool mk2,.int .u64 (nx2:Int)] 55));clear l;go_wp2;go_roundw
    case rel=>exact⟨k+1,by omega,by go_num,Ks.out⟩
    case measure=>simp[intOf];omega
   have hend:decide ((k:Int)<((aR ws).length:Int))=false:=by rw[kqh];omega
   have hendn:decide (k<(aR ws).length)=false:=by rw[kqh];exact H
   have HB:=hid (j.out.trans (hB.mono j.out.size));have HZ:=hid (Jr.out.up hB hz);clear H hk hB Ke Jt Kb j Jr;go_wp2_with fail;refine (Kx.out _ (HR.out.up HB.out HB.out.size)).mono ?_;rintro e x1 ⟨⟨m1,rfl,Kg⟩,y⟩;have f:=hid (HB.out.trans (y.mono HB.out.size));have Kj:=hid (HZ.out.up y y.size);have Ko:=hid Kg;obtain⟨TA,tc,L,OA,oc,O,SA,sc,rfl,-⟩:=Kg;clear y;go_wp2_with fail;have S:=(kql x1.heap.size x1).alloc (kqg _) (.cells #[.slice TA L.length tc,.slice OA O.length oc,.slice SA M.slots.length sc] 72);have BM1:=hid (Bx.new x1 72 #[.slice TA L.length tc,.slice OA O.length oc,.slice SA M.slots.length sc]);have g:=hid (f.out.trans (S.mono f.out.size));have Jh:=hid (Kj.out.up S S.size);have Jp:=hid (Ko.out.up S);obtain⟨X1,Ju⟩:=xq (x1.alloc (.cells #[.slice TA L.length tc,.slice OA O.length oc,.slice SA M.slots.length sc] 72));rw[Ju] at BM1 g Jh Jp |-;clear Ju S;refine (Lh.out _ _ _ Jq Jh.out).mono ?_;rintro e x2 ⟨⟨m2,rfl,Jw⟩,l⟩;have Kr:=hid Jw;obtain⟨TB,td,L',OB,od,O',SB,sd,rfl,-,-,-,-,Kl⟩:=Jw;have Jv:O'.length=(aR ws).length:=by have:=congrArg List.length Kl;rw[kqs] at this;rw[this,Lb.out]
   have BM2:=hid (BM1.out.up l BM1.out.lt);have D:=hid (g.out.trans (l.mono g.out.size));have Jd:=hid (Jp.out.up l);have q:=(kql x2.heap.size x2).alloc (kqg _) (.cells #[.slice TB L'.length td,.slice OB O'.length od,.slice SB N.slots.length sd] 72);have V:=hid (Bx.new x2 72 #[.slice TB L'.length td,.slice OB O'.length od,.slice SB N.slots.length sd]);have BM3:=hid (BM2.out.up q BM2.out.lt);have m:=hid (D.out.trans (q.mono D.out.size));have Q:=hid (Jd.out.up q);have Je:=hid (Kr.out.up q);obtain⟨X2,Ka⟩:=xq (x2.alloc (.cells #[.slice TB L'.length td,.slice OB O'.length od,.slice SB N.slots.length sd] 72));rw[Ka] at V BM3 m Q Je;obtain⟨v0,v1,v2,-⟩:=V.out.c3;rw[Jv] at v1 V Je Ka |-;clear Kr Kl l q BM1 BM2 f g D Ko Jp Jd HZ Kj Jh Jv;obtain⟨m0,m1,m2,-⟩:=BM3.out.c3;go_wp2_with fail;refine (La.out _ _ Q.out).mono ?_;rintro e x3 ⟨m3,rfl,Kq,Jb⟩;have o:=hid (m.out.trans (Jb.mono m.out.size));have BN3:=hid (V.out.up Jb V.out.lt);have Kz:=hid (Je.out.up Jb);have Jd:=hid Kq;obtain⟨TC,te,L3,OC,oe,O3,SC,se,rfl,-⟩:=Kq;clear Jb Q Je m;have q:=(kql x3.heap.size x3).alloc (kqg _) (.cells #[.slice TC L3.length te,.slice OC O3.length oe,.slice SC K.slots.length se] 72)
   have BC3:=hid (Bx.new x3 72 #[.slice TC L3.length te,.slice OC O3.length oe,.slice SC K.slots.length se]);have BN4:=hid (BN3.out.up q BN3.out.lt);have G:=hid (o.out.trans (q.mono o.out.size));have Q:=hid (Jd.out.up q);have Lc:=hid (Kz.out.up q);obtain⟨n0,n1,n2,-⟩:=BN4.out.c3;clear q;go_wp2_with fail;refine (Js.out _ _ Lc.out).mono ?_;rintro e x4 ⟨m4,rfl,Kp,Ja⟩;have j:=hid (G.out.trans (Ja.mono G.out.size));have BC4:=hid (BC3.out.up Ja BC3.out.lt);have Ky:=hid (Q.out.up Ja);have Le:=hid Kp;obtain⟨TD,tf,L4,OD,of,O4,SD,sf,rfl,-⟩:=Kp;have q:=(kql x4.heap.size x4).alloc (kqg _) (.cells #[.slice TD L4.length tf,.slice OD O4.length of,.slice SD K.slots.length sf] 72);obtain⟨i0,i1,i2,-⟩:=(BC4.out.up q BC4.out.lt).c3;obtain⟨j0,j1,j2,-⟩:=(Bx.new x4 72 #[.slice TD L4.length tf,.slice OD O4.length of,.slice SD K.slots.length sf]).c3;have Kc:=hid (j.out.trans (q.mono j.out.size));have Kv:=hid (Ky.out.up q);have Ld:=hid (Le.out.up q);clear q Ja;go_wp2_with fail;refine (Lf.out _ _ _ Kv.out Ld.out).mono ?_;rintro e x5 ⟨rfl,Li⟩;go_wp2;go_ret;exact⟨rfl,Kc.out.trans (Li.mono Kc.out.size)⟩
  obtain⟨r,Kk⟩:=xq (cH ws);rw[Kk] at T h0;have e1:(r != 0)=true:=by rw[kqt];exact h0
  clear hr ho h0 Kk hg;go_enter func6,ntmps6;go_wp2_with fail;refine (nl w).mono ?_;rintro e w1 ⟨rfl,u⟩;have f:=hid u;clear u;go_wp2_with fail;refine (HG.out _).mono ?_;rintro e w1' ⟨rfl,rfl⟩;go_wp2_with fail;refine (T.out _ (HR.out.up f.out f.out.size)).mono ?_;rintro e w2 ⟨rfl,J⟩;have g:=hid (f.out.trans (J.mono f.out.size));clear J;go_wp2;go_ret;exact⟨rfl,g.out⟩
 rw[hg] at HG;clear hr ho hg;go_enter func6,ntmps6;go_wp2_with fail;refine (nl w).mono ?_;rintro e w1 ⟨rfl,u⟩;have f:=hid u;clear u;go_wp2_with fail;refine (HG.out _).mono ?_;rintro e w1' ⟨rfl,rfl⟩;go_wp2;go_ret;exact⟨rfl,f.out⟩
theorem lV(w:World)(A:Option Addr)(ws:List Nat)(c:Nat)(hn:ws.length<=maxLen)(hc:ws.length<=c)(hr:RdW w w.heap.size A ws)(ho:∀x∈ws,x<18446744073709551616):
 Calls prog 6 #[.slice A ws.length c] w λe w'=>e=.returned (.bool true)/\Below w.heap.size w w':=lo A ws c ws.length w rfl (by unfold maxLen at hn;omega) hc hr ho
end Go.Proofs.YtpcajamacpbjcaaGreat
