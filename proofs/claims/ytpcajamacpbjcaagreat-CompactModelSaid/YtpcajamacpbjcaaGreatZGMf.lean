/- A model's canonical form: how it ends. -/
import Derived.Test.YtpcajamacpbjcaaGreatZGMe
set_option maxHeartbeats 16000000
set_option maxRecDepth 100000
set_option linter.all false
namespace Go.Proofs.YtpcajamacpbjcaaGreat
open Go.RowKit
variable {o:List Nat}{O:List Oj}{S:List Sl}{L:List Ty}{B H H0 g k n oc q tc:Nat}{OA TA:Option Addr}{w w':World}
open Go.Proofs.Tryz
def il (O:List Oj) (k:Nat):Oj:=O[k]?.getD ⟨0,none,0,[]⟩
theorem ky(h:k<O.length):il O k=O[k]:=by unfold il;rw[kqj h];rfl
theorem wZ(h:kr O):∀ {o:List Nat},o.Nodup->(∀x∈o,x<O.length)->kr (o.map (il O)):=by
 intro o
 induction o with
 | nil=>intro _ _;exact List.Pairwise.nil
 | cons x o ih =>
  intro d l;rw[List.nodup_cons] at d;refine List.Pairwise.cons (λy m b f i=>?_) (ih d.2 λz c=>l z (kzj _ c));obtain⟨z,c,rfl⟩:=kzi.1 m;have k:=l x (by simp);have a:=l z (kzj _ c);rw[ky k] at f;rw[ky a] at i;have j:x≠z:=λe=>d.1 (e ▸ c);unfold kr at h;rw[kzf] at h;rcases kvh j with g|g
  .exact h x z k a g b f i
  exact h z x a k g b i f
theorem tS(hl:∀x∈o,x<O.length)(hq:q<(o.map (il O)).length):∃k,∃h:k<O.length,(o.map (il O))[q]=O[k]:=by rw[kj9];have:=hl _ (kqm (by simpa using hq));exact⟨_,this,ky this⟩
def slN (S:List Sl) (o:List Nat) (k:Nat):List Sl:=(S.take k).map (lS o)++S.drop k
theorem He(S:List Sl)(o:List Nat)(k:Nat):(slN S o k).length=S.length:=by unfold slN;rw[kqw,kqs,kq6,kxc];omega
theorem DJ(S:List Sl)(o:List Nat):slN S o 0=S:=by simp[slN]
theorem Hp(S:List Sl)(o:List Nat):slN S o S.length=S.map (lS o):=by simp[slN]
theorem slN_at(hk:k<S.length):∃h:k<(slN S o k).length,(slN S o k)[k]=S[k]:=by
 have a:k<(slN S o k).length:=by rw[He];exact hk
 refine⟨a,?_⟩;have e:(slN S o k)[k]? = some S[k]:=by unfold slN;rw[kxj (by rw[kqs,kq6];omega),kqs,kq6,kx8,kxb (by omega),show k+(k-k)=k by omega,kqj hk]
 rw[kqj a] at e;injection e
theorem Ey(hk:k<S.length):slN S o (k+1)=(slN S o k).set k (lS o S[k]):=by unfold slN;rw[kqp hk,kxa,kkf _ _ (by rw[kqs,kq6];omega)];rw[show k-((S.take k).map (lS o)).length=0 by rw[kqs,kq6];omega,show List.drop k S=S[k]::List.drop (k+1) S from kjh hk,kqf,kkj];rfl
theorem xX{l:List Sl}(hk:k<l.length)(j:Int):(l.flatMap Sl.cells).set (k*3+2) (.int .i64 j)=(l.set k { l[k] with at_:=j }).flatMap Sl.cells:=by
 induction l generalizing k with
 | nil=>simp at hk
 | cons x l ih =>
  cases k with
  | zero=>rfl
  | succ k =>have:=ih (k:=k) (by simpa using hk);rw[kqd,kzy,kzy,kqb,<-this];rw[kkf _ _ (by rw[Sl.len];omega)];congr 2;rw[Sl.len];omega
def Fe (T:List (List Nat)) (o:List Nat) (x:Oj):Oj:=⟨x.typ,x.A,x.c,(kW T o x.ob).fl⟩
theorem Cw(T:List (List Nat))(o:List Nat)(x:Oj):(Fe T o x).l.length=x.l.length:=by unfold Fe kW;simp[Oj.ob]
theorem FG(T:List (List Nat))(o:List Nat)(x:Oj):(Fe T o x).ob=kW T o x.ob:=rfl
theorem v8(T:List (List Nat))(o:List Nat)(x:Oj):(Fe T o x).cells=x.cells:=by unfold Oj.cells;rw[Cw];rfl
theorem yn{W:World}{td pd sd:Nat}{m:Md}{L2:List Ty}{O2:List Oj}{TB PB SB:Option Addr}(h1:km W H (.slice TB L2.length td) L2)(hq:(d9 m).length=q)(h2:W.ownsRow H 135 2 (.slice PB q pd) q (((d9 m).map (il O2)).flatMap Oj.cells))(h3:dZ W H ((d9 m).map (il O2)) λi=>(((d9 m).map (il O2))[i]?.map λx=>(kW (L2.map Ty.l) (d9 m) x.ob).fl).getD [])(h4:W.ownsRow H 52 3 (.slice SB 16 sd) 16 ((m.slots.map (lS (d9 m))).flatMap Sl.cells))(h5:L2.map Ty.l=m.types)(h6:O2.map Oj.ob=m.objs)(h7:∀x∈d9 m,x<O2.length)(h8:m.slots.length=16):
 qh W (.agg #[.slice TB L2.length td,.slice PB q pd,.slice SB 16 sd]) (rR m):=by
 refine⟨TB,td,L2,PB,pd,((d9 m).map (il O2)).map (Fe (L2.map Ty.l) (d9 m)),SB,sd,?_,⟨Rd.of_own h1.1,λx a=>Rd.of_own (h1.2 x a)⟩,⟨?_,λx a=>?_⟩,?_,h5,?_⟩
 .unfold rR;dsimp only;rw[kqs,kqs,hq,kqs,h8]
 .have e:(((d9 m).map (il O2)).map (Fe (L2.map Ty.l) (d9 m))).flatMap Oj.cells=((d9 m).map (il O2)).flatMap Oj.cells:=by rw[List.flatMap_map];exact congrArg (λf=>List.flatMap f _) (funext λx=>v8 _ _ x)
  rw[e];exact Rd.of_own h2
 .obtain ⟨y,d,rfl⟩:=kzi.1 a;obtain⟨i,b,e⟩:=kqu d;have:=h3 i b;dsimp only at this;rw[kqj b,e] at this;rw[show (Fe (L2.map Ty.l) (d9 m) y).A=y.A from rfl];exact Rd.of_own this
 .exact Rd.of_own h4
 unfold rR;dsimp only;rw[kvb,kvb];refine kzm λk g=>?_;have c:=h7 k g;show (Fe _ _ (il O2 k)).ob=_;rw[FG,ky c,h5,<-h6,kzh,kqj c];rfl
open Lib (hid)
theorem MoSt.below(h:MoSt w H0 TA OA tc oc L O)(hb:Below B w w')(hB:w.heap.size<=B):MoSt w' H0 TA OA tc oc L O:=⟨h.t.below hb hB,h.o.below hb hB⟩
theorem FiSt.below{F NB od:Nat}{m1 m2 m3:Value}{OB:Option Addr}(h:FiSt w F NB H m1 m2 m3 n o OB od)(hb:Below B w w')(hB:w.heap.size<=B):FiSt w' F NB H m1 m2 m3 n o OB od:=
 ⟨h.fin.up hb (kxv h.fin.lt hB),h.num.up hb (kxv h.num.lt hB),aj h.ord hb hB,h.nd,h.lt⟩
theorem FP{A:Option Addr}{l:List Nat}(h:Rd w B A (l.map intV))(hk:k<l.length):∃b a,A=some ⟨b,a,none⟩/\b<B/\w.cell? ⟨b,a+k,none⟩=some (.int .i64 (l[k]:Int)):=by obtain⟨b,a,e,d,f⟩:=h (by cases l with|nil=>simp at hk|cons _ _=>simp);have c:=f k (by simpa using hk);refine⟨b,a,e,d,?_⟩;rw[c];simp[intV]
theorem cu{sz:Nat}{t e:TypeId}{cs:Array Value}{v:Value}{xs:List Value}(hb:Bx w g t cs)(he:e≠t)(ho:w.ownsRow H e sz v n xs)(hg:w.grownBy w' (some g)):w'.ownsRow H e sz v n xs:=by
 refine aU ho hg (.inr λh=>?_);rcases ho.2 with⟨rfl,-⟩|⟨b,cap,cur,rfl,-,a,-⟩
 .cases h
 injection h with h;have h:b=g:=h;subst h;have:=a.symm.trans hb;injection this with this;injection this with _ h6;exact he h6
theorem MoSt.grown_ty{cs:Array Value}(h:MoSt w H0 TA OA tc oc L O)(hb:Bx w g 72 cs)(hg:w.grownBy w' (some g)):MoSt w' H0 TA OA tc oc L O:=
 ⟨⟨cu hb (by decide) h.t.1 hg,λx a=>cu hb (by decide) (h.t.2 x a) hg⟩,⟨cu hb (by decide) h.o.1 hg,λx a=>cu hb (by decide) (h.o.2 x a) hg⟩⟩
theorem AO(v:Value)(m:Md)(w:World)(h:qh w v m)(hok:MdOk m):
 Calls prog 34 #[v] w λe w'=>∃v',e=.returned (.tuple #[v',.int .i64 0])/\qh w' v' (rR m)/\Below w.heap.size w w':=by
 have Mv:=hid (λW v (h:qh W v m)=>BB v m W h hok);have Nm:=hid (λW v (h:qh W v m)=>DD v m W h hok);have Lp:=hid h;obtain⟨TA,tc,L,OA,oc,O,SA,sc,rfl,a1,a2,a3,a4,a5⟩:=h;have lO:O.length<=960:=by have:=congrArg List.length a5;rw[kqs] at this;have:=hok.o9;omega
 have lO2:O.length=m.objs.length:=by have:=congrArg List.length a5;rw[kqs] at this;omega
 have X1:=hid ((Bx.new w 72 #[.slice TA L.length tc,.slice OA O.length oc,.slice SA m.slots.length sc]).alloc (.cells #[.slice none 0 0,.slice none 0 0,.slice none 0 0] 72));have x2:=Bx.new (w.alloc (.cells #[.slice TA L.length tc,.slice OA O.length oc,.slice SA m.slots.length sc] 72)) 72 #[.slice none 0 0,.slice none 0 0,.slice none 0 0];rw[kqn] at x2;have X2:=hid x2;have Kf:=hid (((kql w.heap.size w).alloc (kqg _) (.cells #[.slice TA L.length tc,.slice OA O.length oc,.slice SA m.slots.length sc] 72)).alloc (by simp) (.cells #[.slice none 0 0,.slice none 0 0,.slice none 0 0] 72));obtain⟨n,hn⟩:=xq O.length;obtain⟨nt,Lm⟩:=xq L.length;have Jt:=hok.s16;rw[hn,Lm,Jt] at X1 X2 Kf Lp;rw[hn] at lO lO2;rw[hn,Lm,Jt];have Ju:=hid hok;have Lk:=hid lO2;obtain⟨q0,q1,q2,-,-,-,-⟩:=X1.out.c3;clear a1 a2 a3 a4 a5 hok Jt hn Lm x2 lO2;go_enter func34,ntmps34;go_wp2_with fail;refine (Mv.out _ _ (Lp.out.up Kf.out)).mono ?_;rintro e w1 ⟨rfl,Kp⟩;have Lo:=hid (Kf.out.trans (Kp.mono Kf.out.size));have Y1:=hid (X1.out.up Kp X1.out.lt);have Y2:=hid (X2.out.up Kp X2.out.lt);have hh2:=Y2.out.lt;clear q0 q1 q2 Kp X1 X2 Kf;go_wp2_with fail;have Lf:=hid (show qh w1.drew (.agg #[.slice TA nt tc,.slice OA n oc,.slice SA 16 sc]) m from (Lp.out.up Lo.out.drew));have Kq:=hid Lo.out.drew
 have D1:=hid (show Bx w1.drew w.heap.size 72 #[.slice TA nt tc,.slice OA n oc,.slice SA 16 sc] from Y1.out);have D2:=hid (show Bx w1.drew (w.heap.size+1) 72 #[.slice none 0 0,.slice none 0 0,.slice none 0 0] from Y2.out);have Jd:=D1.out.c3;obtain⟨wD,Mc⟩:=xq w1.drew;refine dB 9 (λX:World=>X.cell? ⟨w.heap.size,0,none⟩=some (.slice TA nt tc)/\X.cell? ⟨w.heap.size,1,none⟩=some (.slice OA n oc)/\X.cell? ⟨w.heap.size,2,none⟩=some (.slice SA 16 sc)) (by kernel_rfl) ⟨Jd.1,Jd.2.1,Jd.2.2.1⟩ (λd=>?_);rw[Mc] at Lf Kq D1 D2 d Jd |-;clear Mc Jd Lo Y1 Y2;show wpL _ _ _ _ _ _ 10 #[false,false,false,false,false,false,false,false,false,false] _ _;refine ag (i:=0) (v:=.agg #[.slice TA nt tc,.slice OA n oc,.slice SA 16 sc]) rfl (by kernel_rfl) (by kernel_rfl) (λ_ _ _ h=>h) (by kernel_rfl) (by kernel_rfl) (Or.inl ⟨by kernel_rfl,?_⟩) (by assumption) ?_
 .intro X f;(try dsimp only at f);go_simp
 simp only[Act.put,kqe,kqc,kqb,kqa,kqf,kqd];refine ag (i:=2) (v:=.pointer (some ⟨w.heap.size,1,none⟩)) rfl (by kernel_rfl) (by kernel_rfl) (λ_ _ _ h=>h) (by kernel_rfl) (by kernel_rfl) (Or.inl ⟨by kernel_rfl,?_⟩) (by assumption) ?_
 .intro X f;(try dsimp only at f);go_simp
 simp only[Act.put,kqe,kqc,kqb,kqa,kqf,kqd];refine ag (i:=3) (v:=.slice OA n oc) rfl (by kernel_rfl) (by kernel_rfl) (λ_ _ _ h=>h) (by kernel_rfl) (by kernel_rfl) (Or.inl ⟨by kernel_rfl,?_⟩) (by assumption) ?_
 .intro X f;(try dsimp only at f);go_simp
 simp only[Act.put,kqe,kqc,kqb,kqa,kqf,kqd];refine ag (i:=4) (v:=.int .i64 (n:Int)) rfl (by kernel_rfl) (by kernel_rfl) (λ_ _ _ h=>h) (by kernel_rfl) (by kernel_rfl) (Or.inl ⟨by kernel_rfl,?_⟩) (by assumption) ?_
 .intro X f;(try dsimp only at f);go_simp
 simp only[Act.put,kqe,kqc,kqb,kqa,kqf,kqd];refine FS (λls a W=>CnInv m n wD (.agg #[.slice TA nt tc,.slice OA n oc,.slice SA 16 sc]) (.pointer (some ⟨w.heap.size,0,none⟩)) (.pointer (some ⟨w.heap.size+1,0,none⟩)) (.pointer (some ⟨w.heap.size,1,none⟩)) (.slice OA n oc) (.int .i64 (n:Int)) ls a W) ?_ _ _ _ _ (by decide) ⟨false,false,false,false,false,false,undef,undef,undef,undef,undef,rfl,rfl,hid (CnF.start _ _ _ _ _ _ _ _)⟩;clear d;rintro ls a W ⟨c1,c5,c6,c7,c8,c9,t5,t18,t22,t23,t24,rfl,rfl,Q⟩;have Jn:=Q.out.b;have Jh:=D1.out.up Jn D1.out.lt;have Kn:=Jh.c3;refine⟨?_,λi hi=>?_⟩
 .intro hr;obtain rfl:c9=true:=by
   cases c9 with
   | true=>rfl
   | false =>exfalso;refine Do ?_ hr;cases c1<;>cases c5<;>cases c6<;>cases c7<;>cases c8<;>kernel_rfl
  clear hr Kn;obtain⟨rfl,rfl⟩:=Q.out.o9 rfl;obtain rfl:=Q.out.o7 rfl;obtain⟨rfl,rfl⟩:=Q.out.o6 rfl;obtain⟨TB,td,L2,OB,od,O2,SB,sd,C,m1,m2,m3,m4,m5,m6⟩:=Q.out.f1 rfl;obtain⟨NB,hNB,e5,Kr⟩:=Q.out.f5 rfl;obtain⟨F,Qb,e24,a1,a2,a3,e18,Eq⟩:=Q.out.f7 rfl;obtain⟨U,Mj,e8,V⟩:=Q.out.f8 rfl;rw[if_pos rfl] at V;obtain⟨b1,b2,b3,Kl,e23⟩:=Q.out.f6 rfl;injection C with C;subst C;injection e18 with e18;injection Kl with Kl;have Mt:a1=.slice TB L2.length td:=by have:=congrArg (λ(a:Array Value)=>a[0]?) e18;simpa using this.symm
  have Nr:a2=.slice OB O2.length od:=by have:=congrArg (λ(a:Array Value)=>a[1]?) e18;simpa using this.symm
  have Nz:a3=.slice SB m.slots.length sd:=by have:=congrArg (λ(a:Array Value)=>a[2]?) e18;simpa using this.symm
  subst Mt Nr Nz e5 e24 e8;have Kk:O2.length=n:=by rw[Lk.out,<-m6,kqs]
  have Kg:m.slots.length=16:=Ju.out.s16;obtain⟨j,Ja⟩:=xq L2.length;rw[Kk,Kg,Ja] at Eq;rw[Kg] at m4;rw[Kk,Kg,Ja];have Qg:F≠NB:=λe=>by
   subst e;have:=Eq.symm.trans Kr;injection this with this;injection this with _ h6;revert h6;decide
  have Lr:=hid (Kq.out.trans (Jn.mono Kq.out.size));have Mf:=hid (D2.out.up Jn D2.out.lt);have Jk:Hid (w.heap.size+1<wD.heap.size):=hid D2.out.lt;have Mw:=hid Jn.size;have Nn:=hid (λW h1 h2 h3 h4=>FC m L2 O2 TB OB SB j td od 16 sd n F NB W.heap.size wD.heap.size Ju.out Ja Kk Kg m5 m6 Qg h1 h2 W (kqg _) h3 h4);have FI:=hid (show FiSt W.drew F NB W.drew.heap.size (.slice TB j td) (.slice OB n od) (.slice SB 16 sd) n [] none 0 from ⟨Eq,Kr,kq3 _ _ _ _,List.nodup_nil,λx hx=>absurd hx (by simp)⟩);have MO:=hid (show MoSt W.drew wD.heap.size TB OB td od L2 O2 from ⟨⟨m1.1.drew,λx hx=>(m1.2 x hx).drew⟩,⟨m2.1.drew,λx hx=>(m2.2 x hx).drew⟩⟩);have SL:=hid (show W.drew.ownsRow wD.heap.size 52 3 (.slice SB 16 sd) 16 (m.slots.flatMap Sl.cells) from m4.drew);have G5:=hid (show Bx W.drew U 137 #[.pointer (some ⟨F,0,none⟩)] from V);have T2:=hid (show Bx W.drew (w.heap.size+1) 72 #[.slice none 0 0,.slice none 0 0,.slice none 0 0] from Mf.out);have BW:=hid (show Below w.heap.size w W.drew from Lr.out.drew);have AP:=hid m3;have Ks:=hid Kk;have Kt:=hid Ja;have Nh:=hid m5;have Ms:=hid m6;have Kx:Hid (wD.heap.size<=W.drew.heap.size):=hid Mw.out;have Lx:F<W.drew.heap.size:=Eq.lt;have Mh:NB<W.drew.heap.size:=Kr.lt;have Nx:U<W.drew.heap.size:=V.lt;obtain⟨w2,Jf⟩:=xq W.drew;have Kc:w2.cell? ⟨U,0,none⟩=some (.pointer (some ⟨F,0,none⟩)):=by rw[<-Jf];exact V.cell 0
  have Jy:w2.cell? ⟨F,0,none⟩=some (.slice TB j td):=by rw[<-Jf];exact Eq.cell 0
  have Lw:w2.cell? ⟨F,1,none⟩=some (.slice OB n od):=by rw[<-Jf];exact Eq.cell 1
  have Km:w2.cell? ⟨F,2,none⟩=some (.slice SB 16 sd):=by rw[<-Jf];exact Eq.cell 2
  clear Jn Jh V Eq Kr m1 m2 m3 m4 m5 m6 Kk Ja Kg e23 e18 Kl Q D1 D2 Kq Lf Lr Mf Mw Mv Nm;unfold rm;go_wp2_with fail;refine dB 99 (λX:World=>X.cell? ⟨U,0,none⟩=some (.pointer (some ⟨F,0,none⟩))/\X.cell? ⟨F,0,none⟩=some (.slice TB j td)/\X.cell? ⟨F,1,none⟩=some (.slice OB n od)/\X.cell? ⟨F,2,none⟩=some (.slice SB 16 sd)) (by kernel_rfl) (by rw[Jf];exact⟨Kc,Jy,Lw,Km⟩) (λd=>?_);rw[Jf] at FI MO SL G5 T2 BW Kx Lx Mh Nx d |-;clear Jf Kc Jy Lw Km;show wpL _ _ _ _ _ _ 7 #[false,false,false,false,false,false,false] _ _;refine ag (i:=0) (v:=.pointer (some ⟨F,0,none⟩)) rfl (by kernel_rfl) (by kernel_rfl) (λ_ _ _ h=>h) (by kernel_rfl) (by kernel_rfl) (Or.inl ⟨by kernel_rfl,?_⟩) (by assumption) ?_
  .intro X f;(try dsimp only at f);go_simp
  simp only[Act.put,kqe,kqc,kqb,kqa,kqf,kqd];refine ag (i:=1) (v:=.pointer (some ⟨F,0,none⟩)) rfl (by kernel_rfl) (by kernel_rfl) (λ_ _ _ h=>h) (by kernel_rfl) (by kernel_rfl) (Or.inl ⟨by kernel_rfl,?_⟩) (by assumption) ?_
  .intro X f;(try dsimp only at f);go_simp
  simp only[Act.put,kqe,kqc,kqb,kqa,kqf,kqd];refine ag (i:=2) (v:=.pointer (some ⟨F,0,none⟩)) rfl (by kernel_rfl) (by kernel_rfl) (λ_ _ _ h=>h) (by kernel_rfl) (by kernel_rfl) (Or.inl ⟨by kernel_rfl,?_⟩) (by assumption) ?_
  .intro X f;(try dsimp only at f);go_simp
  simp only[Act.put,kqe,kqc,kqb,kqa,kqf,kqd];refine ag (i:=3) (v:=.agg #[.slice TB j td,.slice OB n od,.slice SB 16 sd]) rfl (by kernel_rfl) (by kernel_rfl) (λ_ _ _ h=>h) (by kernel_rfl) (by kernel_rfl) (Or.inl ⟨by kernel_rfl,?_⟩) (by assumption) ?_
  .intro X f;(try dsimp only at f);go_simp
  simp only[Act.put,kqe,kqc,kqb,kqa,kqf,kqd];refine ag (i:=4) (v:=.pointer (some ⟨F,0,none⟩)) rfl (by kernel_rfl) (by kernel_rfl) (λ_ _ _ h=>h) (by kernel_rfl) (by kernel_rfl) (Or.inl ⟨by kernel_rfl,?_⟩) (by assumption) ?_
  .intro X f;(try dsimp only at f);go_simp
  simp only[Act.put,kqe,kqc,kqb,kqa,kqf,kqd];refine ag (i:=5) (v:=.func (.func 74) #[.pointer (some ⟨F,0,none⟩)] #[]) rfl (by kernel_rfl) (by kernel_rfl) (λ_ _ _ h=>h) (by kernel_rfl) (by kernel_rfl) (Or.inl ⟨by kernel_rfl,?_⟩) (by assumption) ?_
  .intro X f;(try dsimp only at f);go_simp
  simp only[Act.put,kqe,kqc,kqb,kqa,kqf,kqd];refine cM (i:=6) (by kernel_rfl) rfl (by kernel_rfl) (λK z=>?_);go_simp;have Qo:w.heap.size<=F:=by have:=Jk.out;omega
  have Qe:w.heap.size<=NB:=by have:=Jk.out;omega
  have Mx:w.heap.size<=w2.heap.size:=by have:=Jk.out;have:=Kx.out;omega
  have La:U≠F:=λe=>by
   have h1:=G5.out;rw[e] at h1;have:=h1.symm.trans FI.out.fin;injection this with this;injection this with _ h6;revert h6;decide
  have Mz:w.heap.size+1≠F:=by have:=Jk.out;omega
  refine (Nn.out w2 Lx Mh FI.out MO.out SL.out).mono ?_;rintro e w3 ⟨rfl,⟨RB,rd,I⟩,Lg⟩;go_simp;refine z _ _ (λ_=>⟨(Lg.box (by decide) La G5.out).cell 0,I.fin.cell 0,I.fin.cell 1,I.fin.cell 2⟩) ?_;clear z K d;(try dsimp only[Act.put,kqe,kqc,kqb,kqa,kqf,kqd]);refine fZ (by kernel_rfl) ?_ _;have FI3:=hid (show FiSt w3.drew F NB w2.heap.size (.slice TB j td) (.slice OB n od) (.slice SB 16 sd) n (d9 m) RB rd from ⟨I.fin,I.num,I.ord.drew,I.nd,I.lt⟩);have J:=Lg.drew;have MO3:=hid (MO.out.vz J FI.out.fin);have SL3:=hid (J.own FI.out.fin (by decide) (by decide) SL.out);have G53:=hid (J.box (by decide) La G5.out);have T23:=hid (J.box (by decide) Mz T2.out);have BW3:=hid (BW.out.trans (J.below Qo Qe Mx));have Jz:=hid J.size;have Kc:w3.cell? ⟨U,0,none⟩=some (.pointer (some ⟨F,0,none⟩)):=G53.out.cell 0;have Jy:w3.cell? ⟨F,0,none⟩=some (.slice TB j td):=I.fin.cell 0;have Km:w3.cell? ⟨F,2,none⟩=some (.slice SB 16 sd):=I.fin.cell 2;obtain⟨w4,Ng⟩:=xq w3.drew;clear I Lg J FI MO SL G5 T2 BW Nn;go_wp2_with fail
  refine dB 12 (λX:World=>X.cell? ⟨U,0,none⟩=some (.pointer (some ⟨F,0,none⟩))/\X.cell? ⟨F,0,none⟩=some (.slice TB j td)/\X.cell? ⟨F,2,none⟩=some (.slice SB 16 sd)) (by kernel_rfl) ⟨Kc,Jy,Km⟩ (λd=>?_);rw[Ng] at FI3 MO3 SL3 G53 T23 BW3 Jz d |-;clear Ng Kc Jy Km;show wpL _ _ _ _ _ _ 13 #[false,false,false,false,false,false,false,false,false,false,false,false,false] _ _;refine ag (i:=0) (v:=.pointer (some ⟨F,0,none⟩)) rfl (by kernel_rfl) (by kernel_rfl) (λ_ _ _ h=>h) (by kernel_rfl) (by kernel_rfl) (Or.inl ⟨by kernel_rfl,?_⟩) (by assumption) ?_
  .intro X f;(try dsimp only at f);go_simp
  simp only[Act.put,kqe,kqc,kqb,kqa,kqf,kqd];refine ag (i:=1) (v:=.pointer (some ⟨F,0,none⟩)) rfl (by kernel_rfl) (by kernel_rfl) (λ_ _ _ h=>h) (by kernel_rfl) (by kernel_rfl) (Or.inl ⟨by kernel_rfl,?_⟩) (by assumption) ?_
  .intro X f;(try dsimp only at f);go_simp
  simp only[Act.put,kqe,kqc,kqb,kqa,kqf,kqd];refine ag (i:=2) (v:=.pointer (some ⟨F,0,none⟩)) rfl (by kernel_rfl) (by kernel_rfl) (λ_ _ _ h=>h) (by kernel_rfl) (by kernel_rfl) (Or.inl ⟨by kernel_rfl,?_⟩) (by assumption) ?_
  .intro X f;(try dsimp only at f);go_simp
  simp only[Act.put,kqe,kqc,kqb,kqa,kqf,kqd];refine ag (i:=3) (v:=.pointer (some ⟨F,0,none⟩)) rfl (by kernel_rfl) (by kernel_rfl) (λ_ _ _ h=>h) (by kernel_rfl) (by kernel_rfl) (Or.inl ⟨by kernel_rfl,?_⟩) (by assumption) ?_
  .intro X f;(try dsimp only at f);go_simp
  simp only[Act.put,kqe,kqc,kqb,kqa,kqf,kqd];refine ag (i:=4) (v:=.slice TB j td) rfl (by kernel_rfl) (by kernel_rfl) (λ_ _ _ h=>h) (by kernel_rfl) (by kernel_rfl) (Or.inl ⟨by kernel_rfl,?_⟩) (by assumption) ?_
  .intro X f;(try dsimp only at f);go_simp
  simp only[Act.put,kqe,kqc,kqb,kqa,kqf,kqd];refine ag (i:=5) (v:=.pointer (some ⟨F,0,none⟩)) rfl (by kernel_rfl) (by kernel_rfl) (λ_ _ _ h=>h) (by kernel_rfl) (by kernel_rfl) (Or.inl ⟨by kernel_rfl,?_⟩) (by assumption) ?_
  .intro X f;(try dsimp only at f);go_simp
  simp only[Act.put,kqe,kqc,kqb,kqa,kqf,kqd];refine ag (i:=6) (v:=.pointer (some ⟨F,0,none⟩)) rfl (by kernel_rfl) (by kernel_rfl) (λ_ _ _ h=>h) (by kernel_rfl) (by kernel_rfl) (Or.inl ⟨by kernel_rfl,?_⟩) (by assumption) ?_
  .intro X f;(try dsimp only at f);go_simp
  simp only[Act.put,kqe,kqc,kqb,kqa,kqf,kqd];refine ag (i:=7) (v:=.pointer (some ⟨F,0,none⟩)) rfl (by kernel_rfl) (by kernel_rfl) (λ_ _ _ h=>h) (by kernel_rfl) (by kernel_rfl) (Or.inl ⟨by kernel_rfl,?_⟩) (by assumption) ?_
  .intro X f;(try dsimp only at f);go_simp
  simp only[Act.put,kqe,kqc,kqb,kqa,kqf,kqd];refine ag (i:=8) (v:=.pointer (some ⟨F,2,none⟩)) rfl (by kernel_rfl) (by kernel_rfl) (λ_ _ _ h=>h) (by kernel_rfl) (by kernel_rfl) (Or.inl ⟨by kernel_rfl,?_⟩) (by assumption) ?_
  .intro X f;(try dsimp only at f);go_simp
  simp only[Act.put,kqe,kqc,kqb,kqa,kqf,kqd];refine ag (i:=9) (v:=.slice SB 16 sd) rfl (by kernel_rfl) (by kernel_rfl) (λ_ _ _ h=>h) (by kernel_rfl) (by kernel_rfl) (Or.inl ⟨by kernel_rfl,?_⟩) (by assumption) ?_
  .intro X f;(try dsimp only at f);go_simp
  simp only[Act.put,kqe,kqc,kqb,kqa,kqf,kqd];refine ag (i:=10) (v:=.agg #[.slice TB j td,.slice none 0 0,.slice SB 16 sd]) rfl (by kernel_rfl) (by kernel_rfl) (λ_ _ _ h=>h) (by kernel_rfl) (by kernel_rfl) (Or.inl ⟨by kernel_rfl,?_⟩) (by assumption) ?_
  .intro X f;(try dsimp only at f);go_simp
  simp only[Act.put,kqe,kqc,kqb,kqa,kqf,kqd];have X6:=Bx.new w4 72 #[.slice none 0 0,.slice none 0 0,.slice none 0 0];refine cM (i:=11) (by kernel_rfl) rfl (by kernel_rfl) (λK z=>?_);go_simp;refine z _ _ (λ_=>⟨(G53.out.alloc _).cell 0,(FI3.out.fin.alloc _).cell 0,(FI3.out.fin.alloc _).cell 2⟩) ?_;clear z K;(try dsimp only[Act.put,kqe,kqc,kqb,kqa,kqf,kqd]);obtain⟨k0,k1,k2,kf0,kf1,kf2,kl⟩:=X6.c3;refine cM (i:=12) (by kernel_rfl) rfl (by kernel_rfl) (λK z=>?_);go_simp;refine z _ _ (λh=>absurd rfl h) ?_;clear z K k0 k1 k2 kf0 kf1 kf2 kl d;(try dsimp only[Act.put,kqe,kqc,kqb,kqa,kqf,kqd]);refine fZ (by kernel_rfl) ?_ _;have X7:=Bx.new w4 72 #[.slice TB j td,.slice none 0 0,.slice SB 16 sd];have Y:=(kql w4.heap.size w4).alloc (kqg _) (.cells #[.slice TB j td,.slice none 0 0,.slice SB 16 sd] 72);obtain⟨w6,Lz⟩:=xq (w4.alloc (.cells #[.slice TB j td,.slice none 0 0,.slice SB 16 sd] 72));obtain⟨D,Ln⟩:=xq w4.heap.size;have Qc:F<w4.heap.size:=FI3.out.fin.lt
  have Nt:NB<w4.heap.size:=FI3.out.num.lt;have My:U<w4.heap.size:=G53.out.lt;have Mu:w.heap.size+1<w4.heap.size:=T23.out.lt;rw[Lz] at X7 Y |-;have X8:=hid X7;have E:=hid (FI3.out.below Y (kqg _));have MO6:=hid (MO3.out.below Y (kqg _));have SL6:=hid (aj SL3.out Y (kqg _));have G56:=hid (G53.out.up Y My);have T26:=hid (T23.out.up Y Mu);have BW6:=hid (BW3.out.trans (Y.mono (by omega)));rw[Ln] at X8 Qc Nt My Mu Y;have Mi:D<w6.heap.size:=X8.out.lt;have Mr:Hid (w2.heap.size<=D):=hid (by have:=Jz.out;omega);have HSL:Hid (∀b,(Value.slice SB 16 sd).ownBlock=some b->b<D):=hid λb hb=>by have:=(SL3.out.lt b hb).2;omega
  have HMB:Hid ((∀b,(Value.slice TB j td).ownBlock=some b->b<D)):=hid λb hb=>by have:=(MO3.out.t.1.lt b (by rw[Kt.out];exact hb)).2;omega
  have Qp:Hid ((Value.slice RB (d9 m).length rd).ownBlock≠some D):=hid λh=>by
   have:=(FI3.out.ord.lt D h).2;omega
  have Qf:Hid ((Value.slice OB O2.length od).ownBlock≠some D):=hid λh=>by
   have:=(MO3.out.o.1.lt D h).2;omega
  have k5:w6.cell? ⟨U,0,none⟩=some (.pointer (some ⟨F,0,none⟩)):=G56.out.cell 0;obtain⟨q,hq⟩:=xq ((d9 m).length);have kF:w6.cell? ⟨F,4,none⟩=some (.slice RB q rd):=by rw[<-hq];exact E.out.fin.cell 4
  have Qk:q<=n:=by rw[<-hq];exact jW E.out.nd E.out.lt
  have HQ:=hid hq;rw[Ln];clear X6 X7 Y Lz Ln hq FI3 MO3 SL3 G53 T23 BW3 Jz;obtain⟨i2,hi,Lq,Nl,Lt⟩:=kzt AZ;have HJ:=hid hi;have Qt:=hid Lq;have Ny:=hid Nl;have Qa:=hid Lt;clear hi Lq Nl Lt;go_wp2_with fail;clear k5 kF;have Nf:q<=960:=by omega
  go_loopw [48] (λvi wr=>∃(k:Nat) (PB:Option Addr) (pd:Nat),k<=q/\vi=.int .i64 k/\Hid (Bx wr D 72 #[.slice TB j td,.slice PB k pd,.slice SB 16 sd])/\Hid (wr.ownsRow w6.heap.size 135 2 (.slice PB k pd) k ((((d9 m).take k).map (il O2)).flatMap Oj.cells))/\Hid (w6.grownBy wr (some D))) (λi _=>q-(intOf i).toNat)
  case atStart=>exact⟨0,none,0,kqy _,rfl,X8,hid (kq3 _ _ _ _),hid (World.grownBy.refl _ _)⟩
  obtain⟨k,PB,pd,hk,rfl,HX,HP,B⟩:=hrel;have Qq:=B.out.size;by_cases Jm:k<q
  .have R:k<(d9 m).length:=by rw[HQ.out];exact Jm
   have Mp:=aU E.out.ord B.out (by
    right;intro h;have:=(E.out.ord.lt D h).1;have h2:=(E.out.ord.lt D h).2;exact Qp.out h)
   obtain⟨gR,oR,rfl,hgR,r0⟩:=FP (Rd.of_own Mp) R;have Nc:=E.out.lt _ (kqm R);obtain⟨x,hx⟩:=xq ((d9 m)[k]);have Ko:((d9 m).take (k+1)).map (il O2)=((d9 m).take k).map (il O2)++[il O2 x]:=by rw[kqp R,kxa,hx];rfl
   rw[hx] at r0 Nc;have Ll:x<O2.length:=by rw[Ks.out];exact Nc
   have Lh:=aU MO6.out.o.1 B.out (by
    right;intro h;exact Qf.out h)
   obtain⟨gO,oO,rfl,hgO,hc⟩:=Rd.at_flat Oj.len (Rd.of_own (show wr.ownsRow wD.heap.size 135 2 (.slice OB n od) n (O2.flatMap Oj.cells) from by rw[Ks.out] at Lh;exact Lh)) (by omega) Ll;have p0:wr.cell? ⟨gO,oO+x*2,none⟩=some (.int .i64 O2[x].typ):=hc 0 (by omega);have p1:wr.cell? ⟨gO,oO+x*2+1,none⟩=some (.slice O2[x].A O2[x].l.length O2[x].c):=hc 1 (by omega);have Ku:=ky Ll;obtain⟨y,hy⟩:=xq (O2[x]);rw[hy] at p0 p1 Ku;rw[Ku] at Ko;obtain⟨yt,yA,yc,yl⟩:=y;dsimp only at p0 p1 Ku Ko;have Ql:=hid Ko;obtain⟨nY,Lc⟩:=xq yl.length;rw[Lc] at p1;have Qv:=hid Lc;have Qr:(0:Int)<=(k:Int):=by omega
   have Nu:(k:Int)<(q:Int):=by omega
   have hx0:(0:Int)<=(x:Int):=by omega
   have Mt:(x:Int)<(n:Int):=by omega
   have G5r:Bx wr U 137 #[.pointer (some ⟨F,0,none⟩)]:=G56.out.grown B.out (by intro h;injection h with h;omega);have FIr:Bx wr F 140 _:=E.out.fin.grown B.out (by intro h;injection h with h;omega);have Jd:wr.drew.cell? ⟨D,1,none⟩=some (.slice PB k pd)/\wr.drew.cell? ⟨U,0,none⟩=some (.pointer (some ⟨F,0,none⟩))/\wr.drew.cell? ⟨F,1,none⟩=some (.slice (some ⟨gO,oO,none⟩) n od)/\wr.drew.cell? ⟨gO,oO+x*2,none⟩=some (.int .i64 yt)/\wr.drew.cell? ⟨gO,oO+x*2+1,none⟩=some (.slice yA nY yc):=⟨HX.out.cell 1,G5r.cell 0,FIr.cell 1,p0,p1⟩;have Jq:=hid Jd;have Kw:=hid (show Bx wr.drew D 72 #[.slice TB j td,.slice PB k pd,.slice SB 16 sd] from HX.out);have Jl:=hid HP.out.drew;have N:=hid (show w6.grownBy wr.drew (some D) from ⟨B.out.os,B.out.tape,B.out.output,B.out.size,B.out.block⟩);have Qs:Hid (gO<w6.heap.size):=hid (by
    have h:=MO6.out.o.1;rw[Ks.out] at h;exact (h.lt gO rfl).2)
   clear Mp hx Ko Lh hc Ku hy Lc p0 p1 G5r FIr Jd HX HP B R Ll;go_wp2_with fail;obtain⟨S,Ki⟩:=xq wr.drew;refine dB 13 (λX:World=>X.cell? ⟨D,1,none⟩=some (.slice PB k pd)/\X.cell? ⟨U,0,none⟩=some (.pointer (some ⟨F,0,none⟩))/\X.cell? ⟨F,1,none⟩=some (.slice (some ⟨gO,oO,none⟩) n od)/\X.cell? ⟨gO,oO+x*2,none⟩=some (.int .i64 yt)/\X.cell? ⟨gO,oO+x*2+1,none⟩=some (.slice yA nY yc)) (by kernel_rfl) Jq.out (λd=>?_);rw[Ki] at Kw Jl N d |-;clear Ki Jq r0;show wpL _ _ _ _ _ _ 14 #[false,false,false,false,false,false,false,false,false,false,false,false,false,false] _ _;refine ag (i:=0) (v:=.pointer (some ⟨D,1,none⟩)) rfl (by kernel_rfl) (by kernel_rfl) (λ_ _ _ h=>h) (by kernel_rfl) (by kernel_rfl) (Or.inl ⟨by kernel_rfl,?_⟩) (by assumption) ?_
   .intro X f;(try dsimp only at f);go_simp
   simp only[Act.put,kqe,kqc,kqb,kqa,kqf,kqd];refine ag (i:=1) (v:=.slice PB k pd) rfl (by kernel_rfl) (by kernel_rfl) (λ_ _ _ h=>h) (by kernel_rfl) (by kernel_rfl) (Or.inl ⟨by kernel_rfl,?_⟩) (by assumption) ?_
   .intro X f;(try dsimp only at f);go_simp
   simp only[Act.put,kqe,kqc,kqb,kqa,kqf,kqd];refine ag (i:=2) (v:=.pointer (some ⟨F,0,none⟩)) rfl (by kernel_rfl) (by kernel_rfl) (λ_ _ _ h=>h) (by kernel_rfl) (by kernel_rfl) (Or.inl ⟨by kernel_rfl,?_⟩) (by assumption) ?_
   .intro X f;(try dsimp only at f);go_simp
   simp only[Act.put,kqe,kqc,kqb,kqa,kqf,kqd];refine ag (i:=3) (v:=.pointer (some ⟨F,0,none⟩)) rfl (by kernel_rfl) (by kernel_rfl) (λ_ _ _ h=>h) (by kernel_rfl) (by kernel_rfl) (Or.inl ⟨by kernel_rfl,?_⟩) (by assumption) ?_
   .intro X f;(try dsimp only at f);go_simp
   simp only[Act.put,kqe,kqc,kqb,kqa,kqf,kqd];refine ag (i:=4) (v:=.pointer (some ⟨F,0,none⟩)) rfl (by kernel_rfl) (by kernel_rfl) (λ_ _ _ h=>h) (by kernel_rfl) (by kernel_rfl) (Or.inl ⟨by kernel_rfl,?_⟩) (by assumption) ?_
   .intro X f;(try dsimp only at f);go_simp
   simp only[Act.put,kqe,kqc,kqb,kqa,kqf,kqd];refine ag (i:=5) (v:=.pointer (some ⟨F,1,none⟩)) rfl (by kernel_rfl) (by kernel_rfl) (λ_ _ _ h=>h) (by kernel_rfl) (by kernel_rfl) (Or.inl ⟨by kernel_rfl,?_⟩) (by assumption) ?_
   .intro X f;(try dsimp only at f);go_simp
   simp only[Act.put,kqe,kqc,kqb,kqa,kqf,kqd];refine ag (i:=6) (v:=.slice (some ⟨gO,oO,none⟩) n od) rfl (by kernel_rfl) (by kernel_rfl) (λ_ _ _ h=>h) (by kernel_rfl) (by kernel_rfl) (Or.inl ⟨by kernel_rfl,?_⟩) (by assumption) ?_
   .intro X f;(try dsimp only at f);go_simp
   simp only[Act.put,kqe,kqc,kqb,kqa,kqf,kqd];refine ag (i:=7) (v:=.int .i64 (x:Int)) rfl (by kernel_rfl) (by kernel_rfl) (λ_ _ _ h=>h) (by kernel_rfl) (by kernel_rfl) (Or.inl ⟨by kernel_rfl,?_⟩) (by assumption) ?_
   .intro X f;(try dsimp only at f);go_simp
   simp only[Act.put,kqe,kqc,kqb,kqa,kqf,kqd];refine ag (i:=8) (v:=.pointer (some ⟨gO,oO+x*2,none⟩)) rfl (by kernel_rfl) (by kernel_rfl) (λ_ _ _ h=>h) (by kernel_rfl) (by kernel_rfl) (Or.inl ⟨by kernel_rfl,?_⟩) (by assumption) ?_
   .intro X f;(try dsimp only at f);go_simp
   simp only[Act.put,kqe,kqc,kqb,kqa,kqf,kqd];refine ag (i:=9) (v:=.agg #[.int .i64 yt,.slice yA nY yc]) rfl (by kernel_rfl) (by kernel_rfl) (λ_ _ _ h=>h) (by kernel_rfl) (by kernel_rfl) (Or.inl ⟨by kernel_rfl,?_⟩) (by assumption) ?_
   .intro X f;(try dsimp only at f);go_simp
   simp only[Act.put,kqe,kqc,kqb,kqa,kqf,kqd];refine cM (i:=10) (by kernel_rfl) rfl (by kernel_rfl) (λK z=>?_);go_simp;refine z _ _ (λ_=>?_) ?_
   .refine ⟨(Kw.out.alloc _).cell 1,?_,?_,?_,?_⟩
    .exact (kq4 S _ ⟨U,0,none⟩ (kx9 S _ d.2.1)).trans d.2.1
    .exact (kq4 S _ ⟨F,1,none⟩ (kx9 S _ d.2.2.1)).trans d.2.2.1
    .exact (kq4 S _ ⟨gO,oO+x*2,none⟩ (kx9 S _ d.2.2.2.1)).trans d.2.2.2.1
    exact (kq4 S _ ⟨gO,oO+x*2+1,none⟩ (kx9 S _ d.2.2.2.2)).trans d.2.2.2.2
   clear z K;(try dsimp only[Act.put,kqe,kqc,kqb,kqa,kqf,kqd]);refine cM (i:=11) (by kernel_rfl) rfl (by kernel_rfl) (λK z=>?_);have Nw:=N.out.size;refine fh _ _ _ 70 (by rfl) w6.heap.size 135 i2 _ 2 32 underlying70 HJ.out Qt.out Ny.out Qa.out rfl (by decide) (.slice PB k pd) k ((((d9 m).take k).map (il O2)).flatMap Oj.cells) (by rfl) (Jl.out.alloc _) (S.alloc (.cells #[.int .i64 yt,.slice yA nY yc] 135)).heap.size (some ⟨S.heap.size,0,none⟩) 1 1 [.int .i64 yt,.slice yA nY yc] (by rfl) (by rfl) (Rd.of_own (cB (n:=1) (sz:=2) S 135 #[.int .i64 yt,.slice yA nY yc] (kqg _) (by rfl) (by unfold maxLen;omega))) (by simp[Value.oneCell']) (by unfold maxLen;omega) (by omega) (by rw[kqn];omega) ?_;intro v1 w9 Ji Jc;obtain⟨TV,tv,rfl⟩:=aE Ji;have Nb:=aY Jl.out Mi;have g9:=(Kw.out.alloc (.cells #[.int .i64 yt,.slice yA nY yc] 135)).grown Jc Nb;have Jb:∀(p:Addr) (u:Value),p.block<w6.heap.size->S.cell? p=some u->w9.cell? p=some u:=λp u hp hu=>by
    have h1:p.block<S.heap.size:=by omega
    have h2:=(kq4 S (.cells #[.int .i64 yt,.slice yA nY yc] 135) p h1).trans hu;exact Jc.cell h2 (aY Jl.out hp)
   have hGO:=Qs.out;have Lv:w9.cell? ⟨D,1,none⟩=some (.slice PB k pd)/\w9.cell? ⟨U,0,none⟩=some (.pointer (some ⟨F,0,none⟩))/\w9.cell? ⟨F,1,none⟩=some (.slice (some ⟨gO,oO,none⟩) n od)/\w9.cell? ⟨gO,oO+x*2,none⟩=some (.int .i64 yt)/\w9.cell? ⟨gO,oO+x*2+1,none⟩=some (.slice yA nY yc):=⟨g9.cell 1,Jb _ _ (by show U<_;omega) d.2.1,Jb _ _ (by show F<_;omega) d.2.2.1,Jb _ _ (by show gO<_;omega) d.2.2.2.1,Jb _ _ (by show gO<_;omega) d.2.2.2.2⟩;refine z _ _ (λ_=>Lv) ?_;have G9:=hid g9;have R9:=hid Ji;have GR9:=hid (show w6.grownBy w9 (some D) from ⟨Jc.os.trans N.out.os,Jc.tape.trans N.out.tape,Jc.output.trans N.out.output,kza Nw (kza (by rw[kqn];omega) Jc.size),λr hr Qj=>by
    refine (Jc.block r (by rw[kqn];omega) (aY Jl.out hr)).trans ?_;exact ((kxf S _ none).block r (by omega) (by simp)).trans (N.out.block r hr Qj)⟩)
   obtain⟨-,gc9,-,-,gf9,-,gl9⟩:=g9.c3;clear z K Ji Jc Nb g9 Jb Kw Jl N d;(try dsimp only[Act.put,kqe,kqc,kqb,kqa,kqf,kqd]);refine ag (i:=12) (v:=.pointer (some ⟨D,1,none⟩)) rfl (by kernel_rfl) (by kernel_rfl) (λ_ _ _ h=>h) (by kernel_rfl) (by kernel_rfl) (Or.inl ⟨by kernel_rfl,?_⟩) (by assumption) ?_
   .intro X f;(try dsimp only at f);go_simp
   simp only[Act.put,kqe,kqc,kqb,kqa,kqf,kqd];clear Lv;refine cM (i:=13) (by kernel_rfl) rfl (by kernel_rfl) (λK z=>?_);go_simp;refine z _ _ (λh=>absurd rfl h) ?_;clear z K;(try dsimp only[Act.put,kqe,kqc,kqb,kqa,kqf,kqd]);refine fZ (by kernel_rfl) ?_ _;have G10:=hid (G9.out.set_ 1 (.slice TV (k+1) tv));have Nj:=hid (GR9.out.trans (fM w9 ⟨D,1,none⟩ (.slice TV (k+1) tv)));have R10:=hid (ar (p:=⟨D,1,none⟩) R9.out (aY R9.out Mi).symm (.slice TV (k+1) tv));clear gc9 gf9 G9 R9 GR9;go_wp2;go_roundw
   case rel =>
    refine⟨k+1,TV,tv,by omega,by go_num,G10,hid ?_,Nj⟩;rw[Ql.out,kxl];show World.ownsRow _ _ _ _ _ _ (_++[.int .i64 yt,.slice yA yl.length yc]);rw[Qv.out];exact R10.out
   case measure=>simp[intOf];omega
  obtain rfl:q=k:=by omega
  have hkd:decide ((q:Int)<(q:Int))=false:=by rw[kqh];omega
  have hkn:decide (q<q)=false:=by rw[kqh];exact Jm
  have hE:(d9 m).take q=d9 m:=by rw[<-HQ.out,kz2]
  rw[hE] at HP;have MO7:=hid (MO6.out.grown_ty X8.out B.out);have SL7:=hid (cu X8.out (by decide) SL6.out B.out);have G57:=hid (G56.out.grown B.out (show some U≠some D by intro h;injection h with h;omega));have F7:=hid (E.out.fin.grown B.out (show some F≠some D by intro h;injection h with h;omega));have N7:=hid (E.out.num.grown B.out (show some NB≠some D by intro h;injection h with h;omega));have T27:=hid (T26.out.grown B.out (show some (w.heap.size+1)≠some D by intro h;injection h with h;omega));have BW7:=hid (BW6.out.grown B.out BW6.out.size (λr hr=>by injection hr with hr;have:=Mr.out;have:=Jk.out;have:=Kx.out;omega));have Jv:∀x∈d9 m,x<O2.length:=λx hx=>by rw[Ks.out];exact E.out.lt x hx
  have Ns:Hid (((d9 m).map (il O2)).length=q):=hid (by rw[kqs];exact HQ.out);have Li:Hid (wD.heap.size<=w6.heap.size):=hid (by have:=Kx.out;have:=Mr.out;omega);have Mm:=hid (refs_c L2 ((d9 m).map (il O2)) (d9 m) TB PB SB j td q pd 16 sd n F NB U wD.heap.size _ wr lO (by rw[HQ.out];exact Qk) Kt.out Ns.out Nf (λq' Kv=>by
   obtain⟨k,hk,e⟩:=tS Jv Kv;rw[e,Nh.out];obtain⟨T,Fl,t1,t2,t3⟩:=Ju.out.ob _ (by rw[<-Ms.out];exact kz9 (kqm hk));exact⟨T,Fl,t1,t2,by rw[Lk.out];exact t3⟩) (wZ AP.out E.out.nd Jv) (kza Li.out B.out.size)
   ⟨by have:=MO7.out.t.1;rw[Kt.out] at this |-;exact this,MO7.out.t.2⟩ (aB HP.out Li.out) (λq' Kv=>by
    dsimp only;rw[kqj Kv];obtain⟨k,hk,e⟩:=tS Jv Kv;rw[e];exact MO7.out.o.2 _ (kqm hk)) G57.out F7.out rfl N7.out)
  obtain⟨x0,x1,x2,-,-,-,-⟩:=HX.out.c3;have Na:=hid Jv;clear hE Jv Jm hk MO6 SL6 G56 E T26 BW6 X8 B;go_wp2_with fail;refine Mm.out.mono ?_;rintro e w8 ⟨rfl,M,Lb⟩;have FD8:=hid Lb;have OT8:=hid (And.intro (M.own (by decide) MO7.out.t.1) (λx hx=>M.own (by decide) (MO7.out.t.2 x hx)));have PR8:=hid (M.own (by decide) HP.out);have SL8:=hid (M.own (by decide) SL7.out);have G58:=hid (M.box (by decide) G57.out);have F8:=hid (M.box (by decide) F7.out);have N8:=hid (M.box (by decide) N7.out);have T28:=hid (M.box (by decide) T27.out);have X8':=hid (M.box (by decide) HX.out);have Lu:w.heap.size<=wD.heap.size:=by have:=Jk.out;omega
  have BW8:=hid (BW7.out.trans (M.below.mono Lu));have Qi:Hid (∀x∈d9 m,x<O2.length):=hid λx hx=>Na.out x hx;have z2:w8.cell? ⟨D,2,none⟩=some (.slice SB 16 sd):=X8'.out.cell 2;clear M Lb Mm MO7 SL7 G57 F7 N7 T27 HX HP BW7 x0 x1 x2;obtain⟨G,Qn⟩:∃G,SB=some ⟨G,0,none⟩:=by
   rcases SL8.out.2 with⟨-,h⟩|⟨g,cap,Z,h,-⟩
   .cases h
   injection h with h _ _;exact⟨g,h⟩
  subst Qn;go_wp2_with fail;clear z2;have Jw:Hid (m.slots.length=16):=hid Ju.out.s16;have Qm:Hid (w8.ownsRow wD.heap.size 52 3 (.slice (some ⟨G,0,none⟩) 16 sd) 16 ((slN m.slots (d9 m) 0).flatMap Sl.cells)):=hid (by rw[DJ];exact SL8.out);have hgs8:G<w8.heap.size:=(SL8.out.lt G rfl).2;have Nd:wD.heap.size<=G:=(SL8.out.lt G rfl).1;have hg58:=G58.out.lt;have hF8:=F8.out.lt;have hN8:=N8.out.lt;have hX8:=X8'.out.lt;have Kd:Hid (∀(g:Nat) (t:TypeId) (cs:Array Value),t≠52->Bx w8 g t cs->some g≠some G):=hid λg t cs ht hb e=>by
   injection e with e;subst e;obtain⟨g',cap,Z,C,-,e3,-⟩:=SL8.out.2.resolve_left (λh=>by cases h.1);injection C with C _ _;injection C with C;injection C with C _;subst C;have:=hb.symm.trans e3;injection this with this;injection this with _ h6;exact ht h6
  have Np:Hid (∃Z,Bx w8 G 52 Z):=hid (by
   obtain⟨g',cap,Z,C,-,e3,-⟩:=SL8.out.2.resolve_left (λh=>by cases h.1);injection C with C _ _;injection C with C;injection C with C _;subst C;exact⟨Z,e3⟩)
  clear SL8;go_loopw [72] (λvi wr=>∃k:Nat,k<=16/\vi=.int .i64 k/\Hid (wr.ownsRow wD.heap.size 52 3 (.slice (some ⟨G,0,none⟩) 16 sd) 16 ((slN m.slots (d9 m) k).flatMap Sl.cells))/\Hid (w8.grownBy wr (some G))) (λi _=>16-(intOf i).toNat)
  case atStart=>exact⟨0,by omega,rfl,Qm,hid (World.grownBy.refl _ _)⟩
  obtain⟨k,hk,rfl,HS,B⟩:=hrel;have Qq:=B.out.size;have Xr:=hid (X8'.out.grown B.out (Kd.out _ _ _ (by decide) X8'.out));by_cases Jm:k<16
  .have R:k<m.slots.length:=by rw[Jw.out];exact Jm
   obtain⟨Jr,Je⟩:=slN_at (o:=d9 m) R;obtain⟨gq,oq,eq,-,s0,s1,s2⟩:=(show RdS wr wr.heap.size (some ⟨G,0,none⟩) (slN m.slots (d9 m) k) from Rd.of_own HS.out).at_ Jr;injection eq with eq;injection eq with eq eqo;subst eq eqo;rw[kxm] at s0 s1 s2;obtain⟨g',cap,Z,C,-,e3,-⟩:=HS.out.2.resolve_left (λh=>by cases h.1);injection C with C _ e12;subst e12;injection C with C;injection C with C _;subst C;have Me:wr.frozen? ⟨G,k*3+2,none⟩=false:=Bx.frozen (show Bx wr G 52 Z from e3) _;have Kb:=Ey (o:=d9 m) R;have Jg:=Ju.out.sl _ (kqm R);have Ke:=xX Jr;rw[Je] at s0 s1 s2 Ke;obtain⟨s,hs⟩:=xq (m.slots[k]);rw[hs] at s0 s1 s2 Jg Kb Ke Je;obtain⟨gn,us,at_⟩:=s;obtain⟨-,-,-,Jg⟩:=Jg;dsimp only at s0 s1 s2 Jg;have Qr:(0:Int)<=(k:Int):=by omega
   have Nu:(k:Int)<(16:Int):=by omega
   cases us with
   | false =>
    have Js:slN m.slots (d9 m) (k+1)=slN m.slots (d9 m) k:=by rw[Kb,show lS (d9 m) ⟨gn,false,at_⟩=⟨gn,false,at_⟩ from rfl,<-Je];exact List.set_getElem_self Jr
    have Nv:=hid Js;have Qu:=hid (HS.out.alloc (.cells #[.int .i64 gn,.bool false,.int .i64 at_] 52));have Qd:=hid (B.out.trans (kxf wr (.cells #[.int .i64 gn,.bool false,.int .i64 at_] 52) (some G)));clear Je Me Kb Jg Ke hs Js HS B R Jr e3;go_wp2;go_roundw
    case rel=>exact⟨k+1,by omega,by go_num,by rw[Nv.out];exact Qu,Qd⟩
    case measure=>simp[intOf];omega
   | true =>
    obtain⟨-,ha0,Nq⟩:=Jg rfl;rw[<-Lk.out] at Nq;obtain⟨a,rfl⟩:∃a:Nat,at_=(a:Int):=⟨at_.toNat,by omega⟩;have Ma:a<n:=by omega
    have Ls:=tg (d9 m) a;rw[HQ.out] at Ls;have Kh:lS (d9 m) ⟨gn,true,(a:Int)⟩=⟨gn,true,(jN (d9 m) a:Int)-1⟩:=rfl;have N9:=N8.out.grown B.out (Kd.out _ _ _ (by decide) N8.out);have Ld:wr.cell? ⟨NB,a,none⟩=some (.int .i64 (jN (d9 m) a:Int)):=(N9.cell a).trans (gY _ Ma);have Ni:wr.cell? ⟨U,0,none⟩=some (.pointer (some ⟨F,0,none⟩)):=(G58.out.grown B.out (Kd.out _ _ _ (by decide) G58.out)).cell 0;have Nk:wr.cell? ⟨F,3,none⟩=some (.slice (some ⟨NB,0,none⟩) n n):=(F8.out.grown B.out (Kd.out _ _ _ (by decide) F8.out)).cell 3;have Mb:wr.cell? ⟨D,2,none⟩=some (.slice (some ⟨G,0,none⟩) 16 sd):=Xr.out.cell 2;obtain⟨u,hu⟩:=xq (jN (d9 m) a);rw[hu] at Ld Ls Kh;have Ky:((slN m.slots (d9 m) k).flatMap Sl.cells).set (k*3+2) (.int .i64 ((u:Int)-1))=(slN m.slots (d9 m) (k+1)).flatMap Sl.cells:=by rw[Ke,Kb,Kh]
    have Ly:=hid Ky;have Jj:IntKind.i64.wrap ((u:Int)-1)=(u:Int)-1:=kqr _ (by omega);have Mo:=hid Jj;have ha00:(0:Int)<=(a:Int):=by omega
    have ha1:(a:Int)<(n:Int):=by omega
    have T10:=Bx.new wr 52 #[.int .i64 gn,.bool true,.int .i64 (a:Int)];have Jo:∀(p:Addr) (v:Value),wr.cell? p=some v->(wr.alloc (.cells #[.int .i64 gn,.bool true,.int .i64 (a:Int)] 52)).drew.cell? p=some v:=λp v hp=>(kq4 wr _ p (kx9 wr p (by rw[hp]))).trans hp;have Le:=hid (HS.out.alloc (.cells #[.int .i64 gn,.bool true,.int .i64 (a:Int)] 52)).drew;have N:=hid (show w8.grownBy (wr.alloc (.cells #[.int .i64 gn,.bool true,.int .i64 (a:Int)] 52)).drew (some G) from (B.out.trans (kxf wr _ _)).trans ⟨rfl,rfl,rfl,kqg _,λ_ _ _=>rfl⟩);have Jq:=hid (And.intro (Jo _ _ Mb) (And.intro (Jo _ _ Ni) (And.intro (Jo _ _ Nk) (And.intro (show (wr.alloc (.cells #[.int .i64 gn,.bool true,.int .i64 (a:Int)] 52)).drew.cell? ⟨wr.heap.size,2,none⟩=some (.int .i64 (a:Int)) from T10.cell 2) (Jo _ _ Ld)))));have Ka:=hid (Jo _ _ s2);have Kz:(wr.alloc (.cells #[.int .i64 gn,.bool true,.int .i64 (a:Int)] 52)).drew.frozen? ⟨G,k*3+2,none⟩=false:=by have e4:=Bx.frozen ((show Bx wr G 52 Z from e3).alloc (.cells #[.int .i64 gn,.bool true,.int .i64 (a:Int)] 52)) (k*3+2);exact e4
    have Lj:=hid Kz;clear Je Me Kz Kb Jg Ke hs HS B R Jr e3 N9 Ld Ni Nk Mb T10 Jo Kh Ky Jj hu;go_wp2_with fail;obtain⟨S,Ki⟩:∃S,(wr.alloc (.cells #[.int .i64 gn,.bool true,.int .i64 (a:Int)] 52)).drew=S:=⟨_,rfl⟩;refine dB 14 (λX:World=>X.cell? ⟨D,2,none⟩=some (.slice (some ⟨G,0,none⟩) 16 sd)/\X.cell? ⟨U,0,none⟩=some (.pointer (some ⟨F,0,none⟩))/\X.cell? ⟨F,3,none⟩=some (.slice (some ⟨NB,0,none⟩) n n)/\X.cell? ⟨wr.heap.size,2,none⟩=some (.int .i64 (a:Int))/\X.cell? ⟨NB,a,none⟩=some (.int .i64 (u:Int))) (by kernel_rfl) Jq.out (λd=>?_);rw[Ki] at Le N Ka Lj d |-;clear Ki Jq s0 s1 s2;show wpL _ _ _ _ _ _ 15 #[false,false,false,false,false,false,false,false,false,false,false,false,false,false,false] _ _;refine ag (i:=0) (v:=.pointer (some ⟨D,2,none⟩)) rfl (by kernel_rfl) (by kernel_rfl) (λ_ _ _ h=>h) (by kernel_rfl) (by kernel_rfl) (Or.inl ⟨by kernel_rfl,?_⟩) (by assumption) ?_
    .intro X f;(try dsimp only at f);go_simp
    simp only[Act.put,kqe,kqc,kqb,kqa,kqf,kqd];refine ag (i:=1) (v:=.slice (some ⟨G,0,none⟩) 16 sd) rfl (by kernel_rfl) (by kernel_rfl) (λ_ _ _ h=>h) (by kernel_rfl) (by kernel_rfl) (Or.inl ⟨by kernel_rfl,?_⟩) (by assumption) ?_
    .intro X f;(try dsimp only at f);go_simp
    simp only[Act.put,kqe,kqc,kqb,kqa,kqf,kqd];refine ag (i:=2) (v:=.int .i64 (k:Int)) rfl (by kernel_rfl) (by kernel_rfl) (λ_ _ _ h=>h) (by kernel_rfl) (by kernel_rfl) (Or.inl ⟨by kernel_rfl,?_⟩) (by assumption) ?_
    .intro X f;(try dsimp only at f);go_simp
    simp only[Act.put,kqe,kqc,kqb,kqa,kqf,kqd];refine ag (i:=3) (v:=.pointer (some ⟨F,0,none⟩)) rfl (by kernel_rfl) (by kernel_rfl) (λ_ _ _ h=>h) (by kernel_rfl) (by kernel_rfl) (Or.inl ⟨by kernel_rfl,?_⟩) (by assumption) ?_
    .intro X f;(try dsimp only at f);go_simp
    simp only[Act.put,kqe,kqc,kqb,kqa,kqf,kqd];refine ag (i:=4) (v:=.pointer (some ⟨F,0,none⟩)) rfl (by kernel_rfl) (by kernel_rfl) (λ_ _ _ h=>h) (by kernel_rfl) (by kernel_rfl) (Or.inl ⟨by kernel_rfl,?_⟩) (by assumption) ?_
    .intro X f;(try dsimp only at f);go_simp
    simp only[Act.put,kqe,kqc,kqb,kqa,kqf,kqd];refine ag (i:=5) (v:=.pointer (some ⟨F,3,none⟩)) rfl (by kernel_rfl) (by kernel_rfl) (λ_ _ _ h=>h) (by kernel_rfl) (by kernel_rfl) (Or.inl ⟨by kernel_rfl,?_⟩) (by assumption) ?_
    .intro X f;(try dsimp only at f);go_simp
    simp only[Act.put,kqe,kqc,kqb,kqa,kqf,kqd];refine ag (i:=6) (v:=.slice (some ⟨NB,0,none⟩) n n) rfl (by kernel_rfl) (by kernel_rfl) (λ_ _ _ h=>h) (by kernel_rfl) (by kernel_rfl) (Or.inl ⟨by kernel_rfl,?_⟩) (by assumption) ?_
    .intro X f;(try dsimp only at f);go_simp
    simp only[Act.put,kqe,kqc,kqb,kqa,kqf,kqd];refine ag (i:=7) (v:=.pointer (some ⟨wr.heap.size,2,none⟩)) rfl (by kernel_rfl) (by kernel_rfl) (λ_ _ _ h=>h) (by kernel_rfl) (by kernel_rfl) (Or.inl ⟨by kernel_rfl,?_⟩) (by assumption) ?_
    .intro X f;(try dsimp only at f);go_simp
    simp only[Act.put,kqe,kqc,kqb,kqa,kqf,kqd];refine ag (i:=8) (v:=.int .i64 (a:Int)) rfl (by kernel_rfl) (by kernel_rfl) (λ_ _ _ h=>h) (by kernel_rfl) (by kernel_rfl) (Or.inl ⟨by kernel_rfl,?_⟩) (by assumption) ?_
    .intro X f;(try dsimp only at f);go_simp
    simp only[Act.put,kqe,kqc,kqb,kqa,kqf,kqd];refine ag (i:=9) (v:=.pointer (some ⟨NB,a,none⟩)) rfl (by kernel_rfl) (by kernel_rfl) (λ_ _ _ h=>h) (by kernel_rfl) (by kernel_rfl) (Or.inl ⟨by kernel_rfl,?_⟩) (by assumption) ?_
    .intro X f;(try dsimp only at f);go_simp
    simp only[Act.put,kqe,kqc,kqb,kqa,kqf,kqd];refine ag (i:=10) (v:=.int .i64 (u:Int)) rfl (by kernel_rfl) (by kernel_rfl) (λ_ _ _ h=>h) (by kernel_rfl) (by kernel_rfl) (Or.inl ⟨by kernel_rfl,?_⟩) (by assumption) ?_
    .intro X f;(try dsimp only at f);go_simp
    simp only[Act.put,kqe,kqc,kqb,kqa,kqf,kqd];have Jj:IntKind.i64.wrap ((u:Int)-1)=(u:Int)-1:=Mo.out;refine ag (i:=11) (v:=.int .i64 ((u:Int)-1)) rfl (by kernel_rfl) (by kernel_rfl) (λ_ _ _ h=>h) (by kernel_rfl) (by kernel_rfl) (Or.inl ⟨by kernel_rfl,?_⟩) (by assumption) ?_
    .intro X f;(try dsimp only at f);go_simp
    simp only[Act.put,kqe,kqc,kqb,kqa,kqf,kqd];clear Jj;refine cM (i:=12) (by kernel_rfl) rfl (by kernel_rfl) (λK z=>?_);go_simp;refine z _ _ (λ_=>d) ?_;clear z K;(try dsimp only[Act.put,kqe,kqc,kqb,kqa,kqf,kqd]);refine cM (i:=13) (by kernel_rfl) rfl (by kernel_rfl) (λK z=>?_);go_simp;refine z _ _ (λ_=>d) ?_;clear z K;(try dsimp only[Act.put,kqe,kqc,kqb,kqa,kqf,kqd]);have sc:=Ka.out;have sf:=Lj.out;refine cM (i:=14) (by kernel_rfl) rfl (by kernel_rfl) (λK z=>?_);go_simp;refine z _ _ (λh=>absurd rfl h) ?_;clear z K sc sf d;(try dsimp only[Act.put,kqe,kqc,kqb,kqa,kqf,kqd]);refine fZ (by kernel_rfl) ?_ _;have Jz:=hid ((Le.out.stored (k*3+2) (.int .i64 ((u:Int)-1))).1);have No:=hid (N.out.trans (fM S ⟨G,k*3+2,none⟩ (.int .i64 ((u:Int)-1))));clear Le N Ka Lj;go_wp2;go_roundw
    case rel=>exact⟨k+1,by omega,by go_num,by rw[<-Ly.out];exact Jz,No⟩
    case measure=>simp[intOf];omega
  obtain rfl:k=16:=by omega
  have hkd16:decide ((16:Int)<16)=false:=by decide
  have e16:slN m.slots (d9 m) 16=m.slots.map (lS (d9 m)):=by have:=Hp m.slots (d9 m);rw[Jw.out] at this;exact this
  rw[e16] at HS;obtain⟨Z,Jp⟩:=Np.out;have OT9:=hid (show km wr wD.heap.size (.slice TB L2.length td) L2 from ⟨cu Jp (by decide) OT8.out.1 B.out,λx hx=>cu Jp (by decide) (OT8.out.2 x hx) B.out⟩);have PR9:=hid (aB (cu Jp (by decide) PR8.out B.out) Li.out);have FD9:=hid (λq hq=>cu Jp (by decide) (FD8.out q hq) B.out);have T29:=hid (T28.out.grown B.out (Kd.out _ _ _ (by decide) T28.out));have BW9:=hid (BW8.out.grown B.out BW8.out.size (λr hr=>by injection hr with hr;exact hr ▸ kza Lu Nd));have SL9:=HS;obtain⟨x0,x1,x2,-,-,-,-⟩:=Xr.out.c3;obtain⟨y0,y1,y2,yf0,yf1,yf2,yl⟩:=T29.out.c3;clear Jp HS B Xr e16 OT8 PR8 FD8 T28 BW8 Jm hk;go_wp2_with fail;refine kqv (v:=.tuple #[.agg #[.slice TB j td,.slice PB q pd,.slice (some ⟨G,0,none⟩) 16 sd],.int .i64 0]) (by simp[results,results34,go_sem,y0,y1,y2]) rfl ?_;have Kj:∀ {e:TypeId} {sz n H:Nat} {v a0 a1 a2:Value} {xs:List Value},e≠72->wr.ownsRow H e sz v n xs->(((wr.setCell ⟨w.heap.size+1,0,none⟩ a0).setCell ⟨w.heap.size+1,1,none⟩ a1).setCell ⟨w.heap.size+1,2,none⟩ a2).ownsRow H e sz v n xs:=λ{e sz n H v a0 a1 a2 xs} he h =>
   jo ((T29.out.set_ 0 a0).set_ 1 a1) he (jo (T29.out.set_ 0 a0) he (jo T29.out he h 0 a0) 1 a1) 2 a2
  refine⟨_,rfl,?_,((BW9.out.setCell (p:=⟨w.heap.size+1,0,none⟩) (kxe _) _).setCell (p:=⟨w.heap.size+1,1,none⟩) (kxe _) _).setCell (p:=⟨w.heap.size+1,2,none⟩) (kxe _) _⟩;have h9:=yn (m:=m) (L2:=L2) (O2:=O2) (H:=wD.heap.size) (TB:=TB) (PB:=PB) (SB:=some ⟨G,0,none⟩) (td:=td) (pd:=pd) (sd:=sd) (q:=q) (W:=((wr.setCell ⟨w.heap.size+1,0,none⟩ (.slice TB j td)).setCell ⟨w.heap.size+1,1,none⟩ (.slice PB q pd)).setCell ⟨w.heap.size+1,2,none⟩ (.slice (some ⟨G,0,none⟩) 16 sd))
   ⟨Kj (by decide) OT9.out.1,λx hx=>Kj (by decide) (OT9.out.2 x hx)⟩ HQ.out (Kj (by decide) PR9.out) (λi hi=>Kj (by decide) (FD9.out i hi)) (Kj (by decide) SL9.out) Nh.out Ms.out Qi.out Jw.out
  rw[Kt.out] at h9;exact h9
 have hp:((i==1 && !c1)||(i==5 && !c5)||(i==6&&c1&&c5 && !c6)||(i==7&&c6 && !c7)||(i==8 && !c8)||(i==9&&c1&&c5&&c6&&c7&&c8 && !c9))=true:=by refine Cm (p:=λi=>((i==1 && !c1)||(i==5 && !c5)||(i==6&&c1&&c5 && !c6)||(i==7&&c6 && !c7)||(i==8 && !c8)||(i==9&&c1&&c5&&c6&&c7&&c8 && !c9))) ?_ hi;cases c1<;>cases c5<;>cases c6<;>cases c7<;>cases c8<;>cases c9<;>kernel_rfl
 clear hi;simp only[kx7,kqz,kqx,kjf] at hp;rcases hp with ((((⟨rfl,rfl⟩|⟨rfl,rfl⟩) | ⟨⟨⟨rfl,rfl⟩,rfl⟩,rfl⟩) | ⟨⟨rfl,rfl⟩,rfl⟩) | ⟨rfl,rfl⟩) | ⟨⟨⟨⟨⟨⟨rfl,rfl⟩,rfl⟩,rfl⟩,rfl⟩,rfl⟩,rfl⟩
 .refine ⟨_,rfl,by kernel_rfl,λK z=>?_⟩;unfold rm;go_simp;refine (Nm.out W _ (Lf.out.up Jn)).mono ?_;rintro e w8 ⟨Ml,Mn⟩;obtain⟨u,rfl⟩:∃u,e=.returned u:=by obtain⟨TB,td,L,OB,od,O,SB,sd,C,-⟩:=Ml;exact⟨_,C⟩
  go_simp;refine z _ _ ⟨λ_=>?_,true,c5,c6,c7,c8,c9,t5,u,t22,t23,t24,rfl,rfl,hid (Q.out.op1 Ml Mn)⟩;have:=(Jh.up Mn Jh.lt).c3;exact⟨this.1,this.2.1,this.2.2.1⟩
 .refine ⟨_,rfl,by kernel_rfl,λK z=>?_⟩;have hmk:(Instr.makeSlice 42 (.int .i64 (n:Int)) (.int .i64 (n:Int))).run prog W=.ok (.slice (some ⟨W.heap.size,0,none⟩) n n) (W.alloc (.cells (madeCells #[.int .i64 0] n) 3)):=
   run_make_row' (P:=prog) 42 3 (.int .i64 0) 8 underlying42 uJ rfl .i64 .i64 n (by omega) (by omega) W
  unfold rm;go_simp;refine z _ _ ⟨λ_=>?_,c1,true,c6,c7,c8,c9,t5,t18,_,t23,t24,rfl,rfl,hid Q.out.op5⟩;have:=(Jh.alloc (.cells (madeCells #[.int .i64 0] n) 3)).c3;exact⟨this.1,this.2.1,this.2.2.1⟩
 .refine ⟨_,rfl,by kernel_rfl,λK z=>?_⟩;obtain⟨TB,td,L',OB,od,O',SB,sd,C,-⟩:=Q.out.f1 rfl;obtain⟨NB,-,e5,-⟩:=Q.out.f5 rfl;injection C with C;have HE1:=hid C;subst C e5;unfold rm;go_simp;refine z _ _ ⟨λ_=>⟨Kn.1,Kn.2.1,Kn.2.2.1⟩,true,true,true,c7,c8,c9,t5,_,_,_,t24,rfl,rfl,hid (Q.out.op6 rfl rfl rfl)⟩
 .refine ⟨_,rfl,by kernel_rfl,λK z=>?_⟩;obtain⟨a1,a2,a3,e18,e23⟩:=Q.out.f6 rfl;subst e18 e23;unfold rm;go_simp;refine z _ _ ⟨λ_=>?_,c1,c5,true,true,c8,c9,t5,_,t22,_,_,rfl,rfl,hid (Q.out.op7 rfl rfl)⟩;have:=(Jh.alloc (.cells #[a1,a2,a3,t22,.slice none 0 0] 140)).c3;exact⟨this.1,this.2.1,this.2.2.1⟩
 .refine ⟨_,rfl,by kernel_rfl,λK z=>?_⟩;unfold rm;go_simp;refine z _ _ ⟨λ_=>?_,c1,c5,c6,c7,true,c9,_,t18,t22,t23,t24,rfl,rfl,hid Q.out.op8⟩;have:=(Jh.alloc (.cells #[.pointer none] 137)).c3;exact⟨this.1,this.2.1,this.2.2.1⟩
 refine⟨_,rfl,by kernel_rfl,λK z=>?_⟩;obtain⟨U,Mj,e5,V⟩:=Q.out.f8 rfl;obtain⟨F,Qb,e24,-⟩:=Q.out.f7 rfl;have Mg:=Q.out.op9 rfl rfl e5 V Mj;have Qh:=hid Mg;obtain⟨k5,kf5,kl5⟩:=V.c1;subst e5 e24;clear Mg V;unfold rm;go_simp;refine z _ _ ⟨λh=>absurd rfl h,true,true,true,true,true,true,_,t18,t22,t23,_,rfl,rfl,Qh⟩
end Go.Proofs.YtpcajamacpbjcaaGreat
