/- Objects that are reached, in their order: model.finder's visit. -/
import Derived.Test.YtpcajamacpbjcaaGreatZGMc
set_option maxHeartbeats 16000000
set_option maxRecDepth 100000
set_option linter.all false
namespace Go.Proofs.YtpcajamacpbjcaaGreat
open Lib (hid)
open Go.RowKit
variable {l n v:Nat}
open Go.Proofs.Tryz
theorem uJ:(prog.info? 3).map (λi=>(i.zero,i.size,i.bytes))=some (some (.int .i64 0),1,8):=by kernel_rfl
theorem w64s(h:v<=960):wrap64 (v:Int)=(v:Int):=IntWalk.wrap64_in _ (by omega)
theorem Ao{q l2 f:Nat}(h1:l<=l2)(h2:l=q+1)(h3:n-q<f+1)(h4:q+1<=n):n-l2<f:=by omega
theorem Gg(m:Md)(L:List Ty)(O:List Oj)(TA OA SA:Option Addr)(nt tc oc ns sc n F NB H H0:Nat)(hok:MdOk m)(hnt:L.length=nt)(hno:O.length=n)(hT:L.map Ty.l=m.types)(hO:O.map Oj.ob=m.objs)(hFN:F≠NB)(hFH:F<H)(hNH:NB<H):
 ∀(f:Nat) (o:List Nat) (OB:Option Addr) (od k:Nat) (w:World),H<=w.heap.size->FiSt w F NB H (.slice TA nt tc) (.slice OA n oc) (.slice SA ns sc) n o OB od->MoSt w H0 TA OA tc oc L O->k<n->n-o.length<f ->
 Calls prog 74 #[.pointer (some ⟨F,0,none⟩),.int .i64 (k:Int)] w λe w'=>e=.returned (.tuple #[])/\(∃D B,FiSt w' F NB H (.slice TA nt tc) (.slice OA n oc) (.slice SA ns sc) n (kX (oZ m) f o k) D B)/\Vz F NB H w w':=by
 intro f
 induction f with
 | zero=>intro o OB od k w _ _ _ _ h;omega
 | succ f ih =>
  intro o OB od k w hH c V hk hf;have hn9:n<=960:=by have:=hok.o9;rw[<-hO,kqs,hno] at this;exact this
  have holn:o.length<=n:=jW c.nd c.lt;obtain⟨q,hq⟩:=xq o.length;have Kn:=tg o k;have Jo:=hid c;have Kd:=hid V;have Jh:=V.rl;have Jb:=V.ro;have HF:=hid hf;have c3:w.cell? ⟨F,3,none⟩=some (.slice (some ⟨NB,0,none⟩) n n):=c.fin.cell 3;have cn:w.cell? ⟨NB,k,none⟩=some (.int .i64 (jN o k:Int)):=(c.num.cell k).trans (gY o hk);have hk0:(0:Int)<=(k:Int):=by omega
  have hk1:(k:Int)<(n:Int):=by omega
  have hFl:=c.fin.lt;by_cases E:k∈o
  .have h0:=De E;rw[zK E];have hd:decide ((0:Int)<(jN o k:Int))=true:=by rw[kzz];omega
   obtain⟨u,hu⟩:=xq (jN o k);rw[hu] at hd cn h0 Kn;clear c V Jh Jb E hu hf ih;go_enter func74,ntmps74;go_wp2_with fail;refine kqv (v:=.tuple #[]) (by simp[results,results74,go_sem]) rfl ?_;exact⟨rfl,⟨OB,od,Jo.out⟩,Vz.refl _ _ _ _⟩
  have h0:=Dm E;rw[h0] at cn;rw[y7 E];have hdn:decide ((0:Int)<((0:Nat):Int))=false:=by decide
  have Y:(o++[k]).Nodup:=by rw[List.nodup_append];exact⟨c.nd,by simp,λa ha b hb=>by rw[kq1] at hb;rintro rfl;exact E (hb ▸ ha)⟩
  have Eq:∀x∈o++[k],x<n:=λx hx=>by
   rcases kzo.1 hx with hx|hx
   .exact c.lt x hx
   rw[kq1] at hx;omega
  have W:=jW Y Eq;rw[kqw,hq] at W;have Kc:q+1<=n:=W;have R:k<O.length:=by omega
  obtain⟨gO,oO,Kz,hgO,r0,r1⟩:=Jb.at_ R;have Jp:=Jb.2 _ (kqm R);obtain⟨T,Fl,t1,t2,t3⟩:=hok.ob _ (by rw[<-hO];exact kz9 (kqm R));have A:oZ m k=CD m.types O[k].ob (tyO m.types O[k].ob).length:=by unfold oZ;rw[<-hO,kzh,kqj R];rfl
  have Kl:tyO m.types O[k].ob=Fl:=by unfold tyO;rw[t1,kqk,t2];rfl
  rw[Kl] at A;have Ja:T<L.length:=by have:=(kq7.1 t2).1;rw[<-hT,kqs] at this;exact this
  have Jr:L[T].l=Fl:=by rw[<-hT,kzh,kqj Ja] at t2;injection t2
  obtain⟨gT,oT,Ky,hgT,U⟩:=fE Jh.1 Ja;have G:=Jh.2 _ (kqm Ja);have Jv:Hid (∀i,qi m.types O[k].ob.typ i=true↔Fl[i]? = some 3):=hid λi=>by
   unfold qi;rw[t1,kqk,t2,kqx];rfl
  have Ke:=R;obtain⟨x,hx⟩:=xq (O[k]);obtain⟨y,hy⟩:=xq (L[T]);rw[hx] at r0 r1 Jp t1 t3 A Jv;rw[hy] at Jr G U;obtain⟨xt,xA,xc,xl⟩:=x;obtain⟨yA,yc,yl⟩:=y;dsimp only[Oj.ob] at r0 r1 Jp t1 t3 A Jv Jr G U;subst Jr t1;have c4:w.cell? ⟨F,4,none⟩=some (.slice OB q od):=by rw[<-hq];exact c.fin.cell 4
  have f4:w.frozen? ⟨F,4,none⟩=false:=c.fin.frozen 4;have z:=hid c.ord;rw[hq] at z;have X0:=hid ((c.fin.alloc (.cells #[.int .i64 (k:Int)] 3)));rw[hq] at X0;have N0:=hid ((c.num.alloc (.cells #[.int .i64 (k:Int)] 3)));have V0:=hid ((Vz.refl F NB H w).alloc hH (.cells #[.int .i64 (k:Int)] 3));have Ks:=hid Y;have Kt:=hid Eq;have HADJ:=hid A;have HQ:=hid hq;have Ku:=hid t3;have Kv:=hid E;have Ld:=hid ih;obtain⟨d,Jf⟩:=xq xl.length;have Je:yl.length=d:=t3.1.trans Jf;have hF8:d<=8:=by have:=t3.2.1;omega
  have Jz:=hid Jf;have Kq:=hid Je;rw[Jf] at r1;rw[Je] at U;rw[A,Je];obtain⟨i2,hi,Jw,Kp,Jy⟩:=kzt uJ;have HJ:=hid hi;have Lc:=hid Jw;have Kw:=hid Kp;have La:=hid Jy;clear hi Jw Kp Jy;have hTn:T<nt:=by omega
  have hT0:(0:Int)<=(T:Int):=by omega
  have hT1:(T:Int)<(nt:Int):=by omega
  clear c V Jh Jb Y Eq A hq t3 Jp G E ih W R Kl Jf Je t2 h0 Kn hf;subst Kz Ky;go_enter func74,ntmps74;go_wp2_with ((at_builtin;refine kzn _ rfl _ _ 42 rfl H 3 i2 _ 1 8 underlying42 HJ.out Lc.out Kw.out La.out rfl (by decide) _ _ _ rfl (z.out.alloc _) ⟨_,0,none⟩ 1 1 [.int .i64 (k:Int)] rfl rfl (bY _ _ _) (by simp[Value.oneCell']) (by unfold maxLen;omega) (by omega) (bM hH) ?_;intro v1 w2 N Jc _);obtain⟨P,Q,rfl⟩:=aE N;have X2:=X0.out.grown Jc (aY z.out hFH);have N2:=N0.out.grown Jc (aY z.out hNH);have V2:=hid (V0.out.row (kza hH (by rw[kqn];omega)) (z.out.alloc _) Jc);have f4':=X2.frozen 4;have d0:w2.cell? ⟨F,0,none⟩=some (.slice (some ⟨gT,oT,none⟩) nt tc):=X2.cell 0;have d1:w2.cell? ⟨F,1,none⟩=some (.slice (some ⟨gO,oO,none⟩) n oc):=X2.cell 1;have d3:w2.cell? ⟨F,3,none⟩=some (.slice (some ⟨NB,0,none⟩) n n):=X2.cell 3;have d4:w2.cell? ⟨F,4,none⟩=some (.slice OB q od):=X2.cell 4;have dk:w2.cell? ⟨NB,k,none⟩=some (.int .i64 (jN o k:Int)):=(N2.cell k).trans (gY o hk);have fk:=N2.frozen k;have dF:=X2.lt;have dN:=N2.lt;have X2':=hid X2;have N2':=hid N2;have R2:=hid N;clear X2 N2 N Jc V0 X0 N0 z f4 c4 c3 cn r0 r1 U)
  have XS:=hid (show Bx (w2.setCell ⟨F,4,none⟩ (.slice P (q+1) Q)).drew F 140 #[.slice (some ⟨gT,oT,none⟩) nt tc,.slice (some ⟨gO,oO,none⟩) n oc,.slice SA ns sc,.slice (some ⟨NB,0,none⟩) n n,.slice P (q+1) Q] from X2'.out.set_ 4 (.slice P (q+1) Q));have NS:=hid (show Bx (w2.setCell ⟨F,4,none⟩ (.slice P (q+1) Q)).drew NB 3 (rU n o) from N2'.out.far (p:=⟨F,4,none⟩) hFN.symm _);have RS:=hid (ar (p:=⟨F,4,none⟩) R2.out (aY R2.out hFH).symm (.slice P (q+1) Q)).drew;have VS:=hid (V2.out.setF (kza hH V2.out.size) 4 (.slice P (q+1) Q)).drew;have Jm:H<=(w2.setCell ⟨F,4,none⟩ (.slice P (q+1) Q)).drew.heap.size:=kza hH VS.out.size;obtain⟨WD,Jg⟩:∃WD,(w2.setCell ⟨F,4,none⟩ (.slice P (q+1) Q)).drew=WD:=⟨_,rfl⟩;rw[Jg] at XS NS RS VS Jm;have Kk:=And.intro (show WD.cell? ⟨F,3,none⟩=some (.slice (some ⟨NB,0,none⟩) n n) from XS.out.cell 3) (show WD.cell? ⟨F,4,none⟩=some (.slice P (q+1) Q) from XS.out.cell 4);refine dB 11 (λX:World=>X.cell? ⟨F,3,none⟩=some (.slice (some ⟨NB,0,none⟩) n n)/\X.cell? ⟨F,4,none⟩=some (.slice P (q+1) Q)) (by kernel_rfl) (by rw[Jg];exact Kk) (λr=>?_);rw[Jg] at r |-;clear Jg Kk d0 d1 d3 d4 dk fk X2' N2' R2 V2 f4';show wpL _ _ _ _ _ _ 12 #[false,false,false,false,false,false,false,false,false,false,false,false] _ _
  refine ag (i:=0) (v:=.pointer (some ⟨F,0,none⟩)) rfl (by kernel_rfl) (by kernel_rfl) (λ_ _ _ h=>h) (by kernel_rfl) (by kernel_rfl) (Or.inl ⟨by kernel_rfl,?_⟩) (by assumption) ?_
  .intro X s;(try dsimp only at s);go_simp
  simp only[Act.put,kqe,kqc,kqb,kqa,kqf,kqd];refine ag (i:=1) (v:=.pointer (some ⟨F,0,none⟩)) rfl (by kernel_rfl) (by kernel_rfl) (λ_ _ _ h=>h) (by kernel_rfl) (by kernel_rfl) (Or.inl ⟨by kernel_rfl,?_⟩) (by assumption) ?_
  .intro X s;(try dsimp only at s);go_simp
  simp only[Act.put,kqe,kqc,kqb,kqa,kqf,kqd];refine ag (i:=2) (v:=.pointer (some ⟨F,3,none⟩)) rfl (by kernel_rfl) (by kernel_rfl) (λ_ _ _ h=>h) (by kernel_rfl) (by kernel_rfl) (Or.inl ⟨by kernel_rfl,?_⟩) (by assumption) ?_
  .intro X s;(try dsimp only at s);go_simp
  simp only[Act.put,kqe,kqc,kqb,kqa,kqf,kqd];refine ag (i:=3) (v:=.slice (some ⟨NB,0,none⟩) n n) rfl (by kernel_rfl) (by kernel_rfl) (λ_ _ _ h=>h) (by kernel_rfl) (by kernel_rfl) (Or.inl ⟨by kernel_rfl,?_⟩) (by assumption) ?_
  .intro X s;(try dsimp only at s);go_simp
  simp only[Act.put,kqe,kqc,kqb,kqa,kqf,kqd];refine ag (i:=4) (v:=.int .i64 (k:Int)) rfl (by kernel_rfl) (by kernel_rfl) (λ_ _ _ h=>h) (by kernel_rfl) (by kernel_rfl) (Or.inl ⟨by kernel_rfl,?_⟩) (by assumption) ?_
  .intro X s;(try dsimp only at s);go_simp
  simp only[Act.put,kqe,kqc,kqb,kqa,kqf,kqd];refine ag (i:=5) (v:=.pointer (some ⟨F,0,none⟩)) rfl (by kernel_rfl) (by kernel_rfl) (λ_ _ _ h=>h) (by kernel_rfl) (by kernel_rfl) (Or.inl ⟨by kernel_rfl,?_⟩) (by assumption) ?_
  .intro X s;(try dsimp only at s);go_simp
  simp only[Act.put,kqe,kqc,kqb,kqa,kqf,kqd];refine ag (i:=6) (v:=.pointer (some ⟨F,0,none⟩)) rfl (by kernel_rfl) (by kernel_rfl) (λ_ _ _ h=>h) (by kernel_rfl) (by kernel_rfl) (Or.inl ⟨by kernel_rfl,?_⟩) (by assumption) ?_
  .intro X s;(try dsimp only at s);go_simp
  simp only[Act.put,kqe,kqc,kqb,kqa,kqf,kqd];refine ag (i:=7) (v:=.pointer (some ⟨F,4,none⟩)) rfl (by kernel_rfl) (by kernel_rfl) (λ_ _ _ h=>h) (by kernel_rfl) (by kernel_rfl) (Or.inl ⟨by kernel_rfl,?_⟩) (by assumption) ?_
  .intro X s;(try dsimp only at s);go_simp
  simp only[Act.put,kqe,kqc,kqb,kqa,kqf,kqd];refine ag (i:=8) (v:=.slice P (q+1) Q) rfl (by kernel_rfl) (by kernel_rfl) (λ_ _ _ h=>h) (by kernel_rfl) (by kernel_rfl) (Or.inl ⟨by kernel_rfl,?_⟩) (by assumption) ?_
  .intro X s;(try dsimp only at s);go_simp
  simp only[Act.put,kqe,kqc,kqb,kqa,kqf,kqd];refine ag (i:=9) (v:=.int .i64 ((q+1:Nat):Int)) rfl (by kernel_rfl) (by kernel_rfl) (λ_ _ _ h=>h) (by kernel_rfl) (by kernel_rfl) (Or.inl ⟨by kernel_rfl,?_⟩) (by assumption) ?_
  .intro X s;(try dsimp only at s);go_simp
  simp only[Act.put,kqe,kqc,kqb,kqa,kqf,kqd];refine ag (i:=10) (v:=.pointer (some ⟨NB,k,none⟩)) rfl (by kernel_rfl) (by kernel_rfl) (λ_ _ _ h=>h) (by kernel_rfl) (by kernel_rfl) (Or.inl ⟨by kernel_rfl,?_⟩) (by assumption) ?_
  .intro X s;(try dsimp only at s);go_simp
  simp only[Act.put,kqe,kqc,kqb,kqa,kqf,kqd];have dk:WD.cell? ⟨NB,k,none⟩=some (.int .i64 (jN o k:Int)):=(NS.out.cell k).trans (gY o hk);have fk:=NS.out.frozen k;refine cM (i:=11) (by kernel_rfl) rfl (by kernel_rfl) (λK hK=>?_);go_simp;refine hK _ _ (λh=>absurd rfl h) ?_;clear hK K dk fk;(try dsimp only[Act.put,kqe,kqc,kqb,kqa,kqf,kqd]);refine fZ (by kernel_rfl) ?_ _;have X3:=XS.out.far (p:=⟨NB,k,none⟩) hFN (.int .i64 ((q:Int)+1));have N3:Bx (WD.setCell ⟨NB,k,none⟩ (.int .i64 ((q:Int)+1))) NB 3 (rU n (o++[k])):=by rw[<-BU hk Kv.out,HQ.out];exact NS.out.set_ k _
  have R3:=ar (p:=⟨NB,k,none⟩) RS.out (aY RS.out hNH).symm (.int .i64 ((q:Int)+1));have V3:=VS.out.setN Jm NS.out k (.int .i64 ((q:Int)+1));obtain⟨I,Kg⟩:∃I,WD.setCell ⟨NB,k,none⟩ (.int .i64 ((q:Int)+1))=I:=⟨_,rfl⟩;rw[Kg] at X3 N3 R3 V3 |-;have Kx:H<=I.heap.size:=kza hH V3.size;have Kr:=Kd.out.vz V3 Jo.out.fin;have r0:=Kr.ro.at_ (k:=k) Ke;have U:=fE Kr.rl.1 Ja;rw[hx] at r0;rw[hy] at U;obtain⟨g1,o1,e1,-,r0,r1⟩:=r0;obtain⟨g2,o2,e2,Lb,U⟩:=U;injection e1 with e1;injection e1 with e1 e11;injection e2 with e2;injection e2 with e2 e22;subst e1 e11 e2 e22;dsimp only at r0 r1 U;have X4:=hid (X3.alloc (.cells #[.int .i64 (T:Int),.slice xA d xc] 135));have N4:=hid (N3.alloc (.cells #[.int .i64 (T:Int),.slice xA d xc] 135));have R4:=hid (R3.alloc (.cells #[.int .i64 (T:Int),.slice xA d xc] 135));have V4:=hid (V3.alloc Kx (.cells #[.int .i64 (T:Int),.slice xA d xc] 135));have O4:=hid (Bx.new I 135 #[.int .i64 (T:Int),.slice xA d xc]);have d0:I.cell? ⟨F,0,none⟩=some (.slice (some ⟨gT,oT,none⟩) nt tc):=X3.cell 0;have d1:I.cell? ⟨F,1,none⟩=some (.slice (some ⟨gO,oO,none⟩) n oc):=X3.cell 1;have hX3:=X3.lt;rw[Jz.out] at r1;rw[Kq.out] at U;clear X3 N3 R3 V3 Kg XS NS RS VS Jm r;go_wp2_with fail
  refine kz6 (S:=λX:World=>X.cell? ⟨F,0,none⟩=some (.slice (some ⟨gT,oT,none⟩) nt tc)/\X.cell? ⟨I.heap.size,0,none⟩=some (.int .i64 (T:Int))/\X.cell? ⟨gT,oT+T,none⟩=some (.slice yA d yc)) (by kernel_rfl) ⟨X4.out.cell 0,O4.out.cell 0,(kq4 I _ ⟨gT,oT+T,none⟩ Lb).trans U⟩ (λr=>?_);have X5:=hid (show Bx (I.alloc (.cells #[.int .i64 (T:Int),.slice xA d xc] 135)).drew F 140 #[.slice (some ⟨gT,oT,none⟩) nt tc,.slice (some ⟨gO,oO,none⟩) n oc,.slice SA ns sc,.slice (some ⟨NB,0,none⟩) n n,.slice P (q+1) Q] from X4.out);have N5:=hid (show Bx (I.alloc (.cells #[.int .i64 (T:Int),.slice xA d xc] 135)).drew NB 3 (rU n (o++[k])) from N4.out);have R5:=hid R4.out.drew;have V5:=hid V4.out.drew;have O5:=hid (show Bx (I.alloc (.cells #[.int .i64 (T:Int),.slice xA d xc] 135)).drew I.heap.size 135 #[.int .i64 (T:Int),.slice xA d xc] from O4.out);obtain⟨W5,Ki⟩:∃W5,(I.alloc (.cells #[.int .i64 (T:Int),.slice xA d xc] 135)).drew=W5:=⟨_,rfl⟩;rw[Ki] at X5 N5 R5 V5 O5 r |-;clear Ki X4 N4 R4 V4 O4 d0 d1 r0 r1 U;show wpAnyH _ _ _ _ _ 11 #[false,false,false,false,false,false,false,false,false,false,false] _ _;refine tj 0 (.pointer (some ⟨F,0,none⟩)) ?_;dsimp only[Act.put,kqe,kqc,kqb,kqa,kqf,kqd];refine tj 1 (.pointer (some ⟨F,0,none⟩)) ?_;dsimp only[Act.put,kqe,kqc,kqb,kqa,kqf,kqd];refine tj 2 (.pointer (some ⟨F,0,none⟩)) ?_
  dsimp only[Act.put,kqe,kqc,kqb,kqa,kqf,kqd];refine tj 3 (.pointer (some ⟨F,0,none⟩)) ?_;dsimp only[Act.put,kqe,kqc,kqb,kqa,kqf,kqd];refine tj 4 (.slice (some ⟨gT,oT,none⟩) nt tc) ?_;dsimp only[Act.put,kqe,kqc,kqb,kqa,kqf,kqd];refine tj 5 (.pointer (some ⟨I.heap.size,0,none⟩)) ?_;dsimp only[Act.put,kqe,kqc,kqb,kqa,kqf,kqd];refine tj 6 (.int .i64 (T:Int)) ?_;dsimp only[Act.put,kqe,kqc,kqb,kqa,kqf,kqd];refine tj 7 (.pointer (some ⟨gT,oT+T,none⟩)) ?_;dsimp only[Act.put,kqe,kqc,kqb,kqa,kqf,kqd];refine tj 8 (.slice yA d yc) ?_;dsimp only[Act.put,kqe,kqc,kqb,kqa,kqf,kqd];refine tj 9 (.int .i64 (d:Int)) ?_;dsimp only[Act.put,kqe,kqc,kqb,kqa,kqf,kqd];refine tj 10 (.int .i64 0) ?_;dsimp only[Act.put,kqe,kqc,kqb,kqa,kqf,kqd];refine kx3 (by kernel_rfl) ?_ _;clear r;simp only[kqa,kqf,kqd];have S5:FiSt W5 F NB H (.slice (some ⟨gT,oT,none⟩) nt tc) (.slice (some ⟨gO,oO,none⟩) n oc) (.slice SA ns sc) n (o++[k]) P Q:=⟨by rw[kqw,HQ.out];exact X5.out,N5.out,by rw[kqw,HQ.out,kxa];exact R5.out,Ks.out,Kt.out⟩;have S5':=hid S5;clear S5 X5 N5 R5;have Kj:F≠I.heap.size:=by omega
  go_wp2_with fail;go_loopw [54] (λvi wr=>∃(j:Nat) (D:Option Addr) (B:Nat),j<=d/\vi=.int .i64 j/\Hid (FiSt wr F NB H (.slice (some ⟨gT,oT,none⟩) nt tc) (.slice (some ⟨gO,oO,none⟩) n oc) (.slice SA ns sc) n ((CD m.types ⟨(T:Int),xl⟩ j).foldl (kX (oZ m) f) (o++[k])) D B)/\Hid (Vz F NB H w wr)/\Hid (Bx wr I.heap.size 135 #[.int .i64 (T:Int),.slice xA d xc])) (λi _=>d-(intOf i).toNat)
  case atStart=>exact⟨0,P,Q,kqy _,rfl,S5',V5,O5⟩
  obtain⟨j,D,B,hj,rfl,HS,HV,Z⟩:=hrel;by_cases Jt:j<d
  .skip
   have Jd:j<xl.length:=by rw[Jz.out];exact Jt
   have Jq:j<yl.length:=by rw[Kq.out];exact Jt
   have Ji:=Kd.out.vz HV.out Jo.out.fin;have G:=Rd.of_own (Ji.t.2 _ (kqm Ja));have Jj:=Rd.of_own (Ji.o.2 _ (kqm Ke));rw[hy] at G;rw[hx] at Jj;dsimp only at G Jj;obtain⟨gy,oy,rfl,hgy,y0⟩:=RdY.at_ G Jq;obtain⟨gf,of,rfl,hgf,v0⟩:=RdW.at_ Jj Jd;have Kf:=hid Ji;clear Ji G Jj;obtain⟨Ka,-,J⟩:=Ku.out.2.2 j Jd;have M:=Jv.out j;have Km:fdO ⟨(T:Int),xl⟩ j=xl[j]:=by unfold fdO;dsimp only;rw[kqj Jd];rfl
   have g:=AB m.types ⟨(T:Int),xl⟩ j;rw[Km] at g;rw[kqj Jq] at J M;obtain⟨kd,Jk⟩:=xq (yl[j]);obtain⟨v,hv⟩:=xq (xl[j]);rw[Jk] at y0 J M;rw[hv] at v0 Ka J g;have hi0:(0:Int)<=(j:Int):=by omega
   have hi1:(j:Int)<(d:Int):=by omega
   obtain⟨c0,c1,-,-,hcl⟩:=Z.out.c2;clear Jk hv Km Jd Jq;by_cases Js:kd=3
   .subst Js;have Jl:=J rfl;by_cases Jn:v=0
    .subst Jn;rw[if_neg (by simp),kz1] at g;have C:=hid g;clear g M J;go_wp2;go_roundw
     case rel=>exact⟨j+1,D,B,by omega,by go_num,by rw[C.out];exact HS,HV,Z⟩
     case measure=>simp[intOf];omega
    rw[if_pos ⟨M.2 rfl,Jn⟩] at g;have C:=hid g;have hve:((v:Int)==0)=false:=by rw[kqi];omega
    have hven:(v==0)=false:=by rw[kqi];exact Jn
    obtain⟨v',rfl⟩:∃v',v=v'+1:=⟨v-1,by omega⟩;clear g M J;have Ko:Hid (wrap64 (v':Int)=(v':Int)):=hid (w64s (Nat.le_of_succ_le (kza Jl hok.o9)));have Kh:Hid (v' < n):=hid (by rw[<-hO,kqs,hno] at Jl;exact Jl);go_wp2_with fail;rw[Ko.out];refine (Ld.out _ D B v' wr (kza hH HV.out.size) HS.out Kf.out Kh.out (Ao (Ez (oZ m) f (CD m.types ⟨(T:Int),xl⟩ j) (o++[k])) (by rw[kqw,HQ.out];rfl) (by rw[<-HQ.out];exact HF.out) Kc)).mono ?_;rintro e w6 ⟨rfl,⟨OB6,od6,Kb⟩,Ju⟩;have S6:=hid Kb;have V6:=hid (HV.out.trans Ju);have O6:=hid (Ju.box (by decide) Kj.symm Z.out);clear Kb Ju HS HV Z Kf v0 y0 c0 c1;go_wp2;go_roundw
    case rel=>exact⟨j+1,OB6,od6,by omega,by go_num,by rw[C.out,List.foldl_append];exact S6,V6,O6⟩
    case measure=>simp[intOf];omega
   have e3:((kd:Int)==3)=false:=by rw[kqi];omega
   have e3n:(kd==3)=false:=by rw[kqi];exact Js
   rw[if_neg (λh=>Js (by have:=M.1 h.1;injection this)),kz1] at g;have C:=hid g;clear g M J;go_wp2;go_roundw
   case rel=>exact⟨j+1,D,B,by omega,by go_num,by rw[C.out];exact HS,HV,Z⟩
   case measure=>simp[intOf];omega
  obtain rfl:d=j:=by omega
  have Jk:decide ((d:Int)<(d:Int))=false:=by rw[kqh];omega
  have hkn:decide (d<d)=false:=by rw[kqh];exact Jt
  go_wp2_with fail;refine bodyPost_end (v:=.tuple #[]) (by simp[results,results74,go_sem]) rfl ?_;exact⟨rfl,⟨D,B,HS.out⟩,HV.out⟩
theorem vL(m:Md)(f:Nat)(l:List Sl)(o:List Nat)(s:Sl):jA m f (l++[s]) o=if s.used=true then kX (oZ m) f (jA m f l o) s.at_.toNat else jA m f l o:=by unfold jA;rw[List.foldl_append];rfl
theorem fuel0(h:n<=960):n-l<2048:=by omega
theorem FC(m:Md)(L:List Ty)(O:List Oj)(TA OA SA:Option Addr)(nt tc oc ns sc n F NB H H0:Nat)(hok:MdOk m)(hnt:L.length=nt)(hno:O.length=n)(hns:m.slots.length=ns)(hT:L.map Ty.l=m.types)(hO:O.map Oj.ob=m.objs)(hFN:F≠NB)(hFH:F<H)(hNH:NB<H)(w:World)(hH:H<=w.heap.size)(hst:FiSt w F NB H (.slice TA nt tc) (.slice OA n oc) (.slice SA ns sc) n [] none 0)(hMO:MoSt w H0 TA OA tc oc L O)(hRS:w.ownsRow H0 52 3 (.slice SA ns sc) ns (m.slots.flatMap Sl.cells)):
 Calls prog 73 #[.agg #[.slice TA nt tc,.slice OA n oc,.slice SA ns sc],.func (.func 74) #[.pointer (some ⟨F,0,none⟩)] #[]] w λe w'=>e=.returned (.tuple #[])/\(∃h j,FiSt w' F NB H (.slice TA nt tc) (.slice OA n oc) (.slice SA ns sc) n (d9 m) h j)/\Vz F NB H w w':=by
 have J:n<=960:=by have:=hok.o9;rw[<-hO,kqs,hno] at this;exact this
 have hns16:ns<=16:=by rw[<-hns];exact Nat.le_of_eq hok.s16
 have D:=hid hok;have X:=hid (λo h j k w h1 h2 h3 h4=>Gg m L O TA OA SA nt tc oc ns sc n F NB H H0 hok hnt hno hT hO hFN hFH hNH 2048 o h j k w h1 h2 h3 h4 (fuel0 J));have B:=hid hst.fin;have Z:=hid ((Vz.refl F NB H w).alloc hH (.cells #[.slice TA nt tc,.slice OA n oc,.slice SA ns sc] 72));have S0:=hid (show FiSt (w.alloc (.cells #[.slice TA nt tc,.slice OA n oc,.slice SA ns sc] 72)) F NB H (.slice TA nt tc) (.slice OA n oc) (.slice SA ns sc) n [] none 0 from ⟨hst.fin.alloc _,hst.num.alloc _,hst.ord.alloc _,hst.nd,hst.lt⟩);have hx2:=(Bx.new w 72 #[.slice TA nt tc,.slice OA n oc,.slice SA ns sc]).cell 2;have G:=hid hMO;have E:=hid hRS;have I:Hid (m.objs.length=n):=hid (by rw[<-hO,kqs,hno]);have A:=hid hns;have M:=hid hH;clear hst hMO hRS hok hnt hno hns hT hO hFN hNH hH hFH;go_enter func73,ntmps73;go_wp2_with fail;go_loopw [9] (λvi wr=>∃(k:Nat) (h:Option Addr) (j:Nat),k<=ns/\vi=.int .i64 k/\Hid (FiSt wr F NB H (.slice TA nt tc) (.slice OA n oc) (.slice SA ns sc) n (jA m 2048 (m.slots.take k) []) h j)/\Hid (Vz F NB H w wr)) (λi _=>ns-(intOf i).toNat)
 case atStart=>exact⟨0,none,0,kqy _,rfl,S0,Z⟩
 obtain⟨k,h,j,hk,rfl,f,c⟩:=hrel;by_cases u:k<ns
 .have r:k<m.slots.length:=by rw[A.out];exact u
  obtain⟨S,W,rfl,hg1,V,R,T⟩:=(show RdS wr wr.heap.size SA m.slots from Rd.of_own (c.out.own B.out (by decide) (by decide) E.out)).at_ r;have d:=D.out.sl _ (kqm r);have q:m.slots.take (k+1)=m.slots.take k++[m.slots[k]]:=kqp r;have b:=vL m 2048 (m.slots.take k) [] m.slots[k];rw[<-q] at b;obtain⟨s,P⟩:=xq (m.slots[k]);rw[P] at V R T d b;obtain⟨C,Y,at_⟩:=s;obtain⟨-,-,-,d⟩:=d;dsimp only at V R T d b;rw[I.out] at d;have hk0:(0:Int)<=(k:Int):=by omega
  have hk1:(k:Int)<(ns:Int):=by omega
  cases Y with
  | false =>
   have t:=hid b;have g:=hid (c.out.alloc (kza M.out c.out.size) (.cells #[.int .i64 C,.bool false,.int .i64 at_] 52));have p:=hid (show FiSt (wr.alloc (.cells #[.int .i64 C,.bool false,.int .i64 at_] 52)) F NB H (.slice TA nt tc) (.slice OA n oc) (.slice (some ⟨S,W,none⟩) ns sc) n (jA m 2048 (m.slots.take k) []) h j from ⟨f.out.fin.alloc _,f.out.num.alloc _,f.out.ord.alloc _,f.out.nd,f.out.lt⟩);clear P q b d f c;go_wp2;go_roundw
   case rel=>exact⟨k+1,h,j,by omega,by go_num,by rw[t.out];exact p,g⟩
   case measure=>simp[intOf];omega
  | true =>
   obtain⟨-,ha0,han⟩:=d rfl;obtain⟨a,rfl⟩:∃a:Nat,at_=(a:Int):=⟨at_.toNat,by omega⟩;have z:a<n:=by omega
   have t:=hid (show jA m 2048 (m.slots.take (k+1)) []=kX (oZ m) 2048 (jA m 2048 (m.slots.take k) []) a from b);have g:=hid (c.out.alloc (kza M.out c.out.size) (.cells #[.int .i64 C,.bool true,.int .i64 (a:Int)] 52));have p:=hid (show FiSt (wr.alloc (.cells #[.int .i64 C,.bool true,.int .i64 (a:Int)] 52)) F NB H (.slice TA nt tc) (.slice OA n oc) (.slice (some ⟨S,W,none⟩) ns sc) n (jA m 2048 (m.slots.take k) []) h j from ⟨f.out.fin.alloc _,f.out.num.alloc _,f.out.ord.alloc _,f.out.nd,f.out.lt⟩);have Q:=hid (X.out _ h j a _ (kza M.out g.out.size) p.out (G.out.vz g.out B.out) z);clear P q b d f c;go_wp2_with fail;refine Q.out.mono ?_;rintro e w6 ⟨rfl,⟨N,K,x⟩,y⟩;have S6:=hid x;have V6:=hid (g.out.trans y);clear x y Q p g;go_wp2;go_roundw
   case rel=>exact⟨k+1,N,K,by omega,by go_num,by rw[t.out];exact S6,V6⟩
   case measure=>simp[intOf];omega
 obtain rfl:ns=k:=by omega
 have U:m.slots.take ns=m.slots:=by rw[<-A.out,kz2]
 rw[U] at f;have hkd:decide ((ns:Int)<(ns:Int))=false:=by rw[kqh];omega
 have hkn:decide (ns<ns)=false:=by rw[kqh];exact u
 clear U;go_wp2_with fail;refine bodyPost_end (v:=.tuple #[]) (by simp[results,results73,go_sem]) rfl ?_;exact⟨rfl,⟨h,j,f.out⟩,c.out⟩
theorem ou(h:v<=1000000):wrap64 (v:Int)=(v:Int)/\IntKind.u64.wrap (v:Int)=(v:Int):=⟨IntWalk.wrap64_in _ (by omega),kzs _ (by omega)⟩
theorem Cy(F NB g5 n x g j:Nat)(o:List Nat)(i:Value)(w:World)(hn:n<=960)(ho:o.length<=n)(hx:x<=n)(h5:w.cell? ⟨g5,0,none⟩=some (.pointer (some ⟨F,0,none⟩)))(h3:w.cell? ⟨F,3,none⟩=some (.slice (some ⟨NB,0,none⟩) n n))(hN:Bx w NB 3 (rU n o))(hv:w.cell? ⟨g,j,none⟩=some (.int .u64 (x:Int)))(hf:w.frozen? ⟨g,j,none⟩=false):
 Calls prog 76 #[i,.pointer (some ⟨g,j,none⟩),.pointer (some ⟨g5,0,none⟩)] w λe w'=>e=.returned (.tuple #[])/\((x=0/\w'=w)\/(x≠0/\w'=w.drew.setCell ⟨g,j,none⟩ (.int .u64 (jN o (x-1):Int)))):=by
 by_cases q:x=0
 .subst q;go_enter func76,ntmps76;go_wp2_with fail;refine bodyPost_end (v:=.tuple #[]) (by simp[results,results76,go_sem]) rfl ?_;simp
 have hxe:((x:Int)==0)=false:=by rw[kqi];omega
 have hxn:(x==0)=false:=by rw[kqi];exact q
 obtain⟨y,rfl⟩:∃y,x=y+1:=⟨x-1,by omega⟩;have z:y<n:=by omega
 have f:=(hN.cell y).trans (gY o z);have d:=tg o y;obtain⟨u,l⟩:=xq (jN o y);rw[l] at f d;rw[kkb,l];have hw1:=(ou (v:=u) (by omega)).2;have hw2:=(ou (v:=y) (by omega)).2;have t:=hid (show w.drew.cell? ⟨g5,0,none⟩=some (.pointer (some ⟨F,0,none⟩))/\w.drew.cell? ⟨F,3,none⟩=some (.slice (some ⟨NB,0,none⟩) n n)/\w.drew.cell? ⟨NB,y,none⟩=some (.int .i64 (u:Int))/\w.drew.cell? ⟨g,j,none⟩=some (.int .u64 ((y+1:Nat):Int)) from ⟨h5,h3,f,hv⟩);have hy0:(0:Int)<=(y:Int):=by omega
 have hy1:(y:Int)<(n:Int):=by omega
 clear hN l q d ho hx;go_enter func76,ntmps76;go_wp2_with fail;refine dB 13 (λX:World=>X.cell? ⟨g5,0,none⟩=some (.pointer (some ⟨F,0,none⟩))/\X.cell? ⟨F,3,none⟩=some (.slice (some ⟨NB,0,none⟩) n n)/\X.cell? ⟨NB,y,none⟩=some (.int .i64 (u:Int))/\X.cell? ⟨g,j,none⟩=some (.int .u64 ((y+1:Nat):Int))) (by kernel_rfl) t.out (λc=>?_);have p:w.drew.frozen? ⟨g,j,none⟩=false:=hf;have k:w.drew.cell? ⟨g,j,none⟩=some (.int .u64 ((y+1:Nat):Int)):=hv;obtain⟨s,b⟩:=xq w.drew;rw[b] at p k c |-;have m:=hid b;clear b t h5 h3 f hv hf;show wpL _ _ _ _ _ _ 14 #[false,false,false,false,false,false,false,false,false,false,false,false,false,false] _ _;refine ag (i:=0) (v:=.pointer (some ⟨g,j,none⟩)) rfl (by kernel_rfl) (by kernel_rfl) (λ_ _ _ h=>h) (by kernel_rfl) (by kernel_rfl) (Or.inl ⟨by kernel_rfl,?_⟩) (by assumption) ?_
 .intro X a;(try dsimp only at a);go_simp
 simp only[Act.put,kqe,kqc,kqb,kqa,kqf,kqd];refine ag (i:=1) (v:=.pointer (some ⟨F,0,none⟩)) rfl (by kernel_rfl) (by kernel_rfl) (λ_ _ _ h=>h) (by kernel_rfl) (by kernel_rfl) (Or.inl ⟨by kernel_rfl,?_⟩) (by assumption) ?_
 .intro X a;(try dsimp only at a);go_simp
 simp only[Act.put,kqe,kqc,kqb,kqa,kqf,kqd];refine ag (i:=2) (v:=.pointer (some ⟨F,0,none⟩)) rfl (by kernel_rfl) (by kernel_rfl) (λ_ _ _ h=>h) (by kernel_rfl) (by kernel_rfl) (Or.inl ⟨by kernel_rfl,?_⟩) (by assumption) ?_
 .intro X a;(try dsimp only at a);go_simp
 simp only[Act.put,kqe,kqc,kqb,kqa,kqf,kqd];refine ag (i:=3) (v:=.pointer (some ⟨F,3,none⟩)) rfl (by kernel_rfl) (by kernel_rfl) (λ_ _ _ h=>h) (by kernel_rfl) (by kernel_rfl) (Or.inl ⟨by kernel_rfl,?_⟩) (by assumption) ?_
 .intro X a;(try dsimp only at a);go_simp
 simp only[Act.put,kqe,kqc,kqb,kqa,kqf,kqd];refine ag (i:=4) (v:=.slice (some ⟨NB,0,none⟩) n n) rfl (by kernel_rfl) (by kernel_rfl) (λ_ _ _ h=>h) (by kernel_rfl) (by kernel_rfl) (Or.inl ⟨by kernel_rfl,?_⟩) (by assumption) ?_
 .intro X a;(try dsimp only at a);go_simp
 simp only[Act.put,kqe,kqc,kqb,kqa,kqf,kqd];refine ag (i:=5) (v:=.pointer (some ⟨g,j,none⟩)) rfl (by kernel_rfl) (by kernel_rfl) (λ_ _ _ h=>h) (by kernel_rfl) (by kernel_rfl) (Or.inl ⟨by kernel_rfl,?_⟩) (by assumption) ?_
 .intro X a;(try dsimp only at a);go_simp
 simp only[Act.put,kqe,kqc,kqb,kqa,kqf,kqd];refine ag (i:=6) (v:=.pointer (some ⟨g,j,none⟩)) rfl (by kernel_rfl) (by kernel_rfl) (λ_ _ _ h=>h) (by kernel_rfl) (by kernel_rfl) (Or.inl ⟨by kernel_rfl,?_⟩) (by assumption) ?_
 .intro X a;(try dsimp only at a);go_simp
 simp only[Act.put,kqe,kqc,kqb,kqa,kqf,kqd];refine ag (i:=7) (v:=.int .u64 ((y+1:Nat):Int)) rfl (by kernel_rfl) (by kernel_rfl) (λ_ _ _ h=>h) (by kernel_rfl) (by kernel_rfl) (Or.inl ⟨by kernel_rfl,?_⟩) (by assumption) ?_
 .intro X a;(try dsimp only at a);go_simp
 simp only[Act.put,kqe,kqc,kqb,kqa,kqf,kqd];refine ag (i:=8) (v:=.int .u64 (y:Int)) rfl (by kernel_rfl) (by kernel_rfl) (λ_ _ _ h=>h) (by kernel_rfl) (by kernel_rfl) (Or.inl ⟨by kernel_rfl,?_⟩) (by assumption) ?_
 .intro X a;(try dsimp only at a);go_simp
 simp only[Act.put,kqe,kqc,kqb,kqa,kqf,kqd];refine ag (i:=9) (v:=.pointer (some ⟨NB,y,none⟩)) rfl (by kernel_rfl) (by kernel_rfl) (λ_ _ _ h=>h) (by kernel_rfl) (by kernel_rfl) (Or.inl ⟨by kernel_rfl,?_⟩) (by assumption) ?_
 .intro X a;(try dsimp only at a);go_simp
 simp only[Act.put,kqe,kqc,kqb,kqa,kqf,kqd];refine ag (i:=10) (v:=.int .i64 (u:Int)) rfl (by kernel_rfl) (by kernel_rfl) (λ_ _ _ h=>h) (by kernel_rfl) (by kernel_rfl) (Or.inl ⟨by kernel_rfl,?_⟩) (by assumption) ?_
 .intro X a;(try dsimp only at a);go_simp
 simp only[Act.put,kqe,kqc,kqb,kqa,kqf,kqd];refine ag (i:=11) (v:=.int .u64 (u:Int)) rfl (by kernel_rfl) (by kernel_rfl) (λ_ _ _ h=>h) (by kernel_rfl) (by kernel_rfl) (Or.inl ⟨by kernel_rfl,?_⟩) (by assumption) ?_
 .intro X a;(try dsimp only at a);go_simp
 simp only[Act.put,kqe,kqc,kqb,kqa,kqf,kqd];refine ag (i:=12) (v:=.pointer (some ⟨g,j,none⟩)) rfl (by kernel_rfl) (by kernel_rfl) (λ_ _ _ h=>h) (by kernel_rfl) (by kernel_rfl) (Or.inl ⟨by kernel_rfl,?_⟩) (by assumption) ?_
 .intro X a;(try dsimp only at a);go_simp
 simp only[Act.put,kqe,kqc,kqb,kqa,kqf,kqd];refine cM (i:=13) (by kernel_rfl) rfl (by kernel_rfl) (λK r=>?_);go_simp;refine r _ _ (λh=>absurd rfl h) ?_;clear r K;(try dsimp only[Act.put,kqe,kqc,kqb,kqa,kqf,kqd]);refine fZ (by kernel_rfl) ?_ _;refine bodyPost_end (v:=.tuple #[]) (by simp[results,results76,go_sem]) rfl ?_;exact⟨rfl,.inr ⟨by omega,by rw[m.out]⟩⟩
end Go.Proofs.YtpcajamacpbjcaaGreat
