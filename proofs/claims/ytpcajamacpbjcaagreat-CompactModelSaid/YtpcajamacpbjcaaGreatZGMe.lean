/- References that are numbered anew: plain facts, and the state. -/
import Derived.Test.YtpcajamacpbjcaaGreatZGMd
import Derived.Test.YtpcajamacpbjcaaGreatZGMc
set_option maxHeartbeats 16000000
set_option maxRecDepth 100000
set_option linter.all false
namespace Go.Proofs.YtpcajamacpbjcaaGreat
open Go.RowKit
variable {e:Ending}{T:List (List Nat)}{o:List Nat}{P:List Oj}{xs:List Value}{m:Md}{H H' b i j n q sz:Nat}{a1 a2 a3 v:Value}{a w w':World}
open Go.Proofs.Tryz
def nN (T:List (List Nat)) (o:List Nat) (x:Ob) (j:Nat):List Nat:=(List.range x.fl.length).map λi=>if i<j/\qi T x.typ i=true/\fdO x i≠0 then jN o (fdO x i-1) else fdO x i
section
variable {T:List (List Nat)} {o:List Nat} {x:Ob} {j:Nat}
theorem kG:(nN T o x j).length=x.fl.length:=by simp[nN]
theorem mr(hi:i<x.fl.length):(nN T o x j)[i]? = some (if i<j/\qi T x.typ i=true/\fdO x i≠0 then jN o (fdO x i-1) else fdO x i):=by unfold nN;rw[kzh,kxq hi];rfl
theorem zE(hi:i<x.fl.length):fdO x i=x.fl[i]:=by unfold fdO;rw[kqj hi];rfl
theorem zW:nN T o x 0=x.fl:=by
 apply kz7;intro i;by_cases a:i<x.fl.length
 .rw[mr a,if_neg (by omega),kqj a,zE a]
 rw[kzd (by rw[kG];omega),kzd (by omega)]
theorem CW:nN T o x x.fl.length=(kW T o x).fl:=by
 unfold nN kW;dsimp only;refine kzm λi a=>?_;have a:=kq8.1 a;by_cases h:qi T x.typ i=true/\fdO x i≠0
 .rw[if_pos ⟨a,h⟩,if_pos h]
 rw[if_neg (λb=>h b.2),if_neg h]
theorem rL(h:¬ (qi T x.typ j=true/\fdO x j≠0)):nN T o x (j+1)=nN T o x j:=by
 unfold nN;refine kzm λi hi=>?_;by_cases e:i=j
 .subst e;rw[if_neg (λa=>h a.2),if_neg (λa=>h a.2)]
 have:(i<j+1)↔(i<j):=by omega
 simp only[this]
theorem DO(hj:j<x.fl.length)(h:qi T x.typ j=true)(h2:fdO x j≠0):(nN T o x j).set j (jN o (fdO x j-1))=nN T o x (j+1):=by
 apply kz7;intro i;by_cases a:i<x.fl.length
 .rw[kz4,kG,mr a,mr a];by_cases e:j=i
  .subst e;rw[if_pos rfl,if_pos hj,if_pos ⟨kxs _,h,h2⟩]
  have:(i<j+1)↔(i<j):=by omega
  rw[if_neg e];simp only[this]
 rw[kzd (by rw[kze,kG];omega),kzd (by rw[kG];omega)]
theorem Fq(hj:j<x.fl.length):∃h:j<(nN T o x j).length,(nN T o x j)[j]=x.fl[j]:=by
 have a:j<(nN T o x j).length:=by rw[kG];exact hj
 refine⟨a,?_⟩;have:=mr (T:=T) (o:=o) (j:=j) hj;rw[kqj a,if_neg (by omega),zE hj] at this;injection this
end
structure Rz (H:Nat) (w w':World):Prop where
 os:w'.os=w.os
 tape:w'.tape=w.tape
 output:w'.output=w.output
 size:w.heap.size<=w'.heap.size
 low:∀r,r<H->w'.heap[r]? = w.heap[r]?
 box:∀ {g:Nat} {t:TypeId} {cs:Array Value},t≠53->Bx w g t cs->Bx w' g t cs
theorem Rz.refl(H:Nat)(w:World):Rz H w w:=⟨rfl,rfl,rfl,kqg _,λ_ _=>rfl,λ_ h=>h⟩
theorem Rz.trans{b c:World}(h:Rz H a b)(k:Rz H b c):Rz H a c:=
 ⟨k.os.trans h.os,k.tape.trans h.tape,k.output.trans h.output,kza h.size k.size,λr d=>(k.low r d).trans (h.low r d),λd e=>k.box d (h.box d e)⟩
theorem Rz.alloc(h:Rz H a w)(hH:H<=w.heap.size)(o:Obj):Rz H a (w.alloc o):=by have b:=kxf w o none;exact h.trans ⟨b.os,b.tape,b.output,b.size,λr h1=>b.block r (by omega) (by simp),λ_ c=>c.alloc o⟩
theorem Rz.drew(h:Rz H a w):Rz H a w.drew:=⟨h.os,h.tape,h.output,h.size,h.low,h.box⟩
theorem Rz.below(h:Rz H w w'):Below H w w':=⟨h.os,h.tape,h.output,h.size,h.low⟩
theorem Rz.own{e:TypeId}(h:Rz H w w')(he:e≠53)(ho:w.ownsRow H' e sz v n xs):w'.ownsRow H' e sz v n xs:=by
 refine⟨ho.1,?_⟩;rcases ho.2 with a|⟨g,c,b,a,f,i,d⟩
 .exact .inl a
 exact .inr ⟨g,c,b,a,f,h.box he i,d⟩
theorem Rz.set_{c:Nat}{A:Option Addr}(h:Rz H a w)(hr:w.ownsRow H 53 1 (.slice A n c) n xs)(hb:(Value.slice A n c).ownBlock=some b)(i:Nat)(v:Value):Rz H a (w.setCell ⟨b,i,none⟩ v):=by
 have d:=fM w ⟨b,i,none⟩ v;refine h.trans ⟨d.os,d.tape,d.output,d.size,λr g=>d.block r ?_ ?_,λg j=>j.grown d ?_⟩
 .have:=(hr.lt b hb);omega
 .intro e;injection e with e;have:=(hr.lt b hb).1;have e:r=b:=e;omega
 intro e;injection e with e;rcases hr.2 with⟨f,-⟩|⟨g',cap,cur,f,-,k,-⟩
 .rw[f] at hb;cases hb
 rw[f] at hb;injection hb with hb;have e:_=b:=e;subst hb;subst e;have:=j.symm.trans k;injection this with this;injection this with _ h6;exact g h6
def dZ (w:World) (H:Nat) (P:List Oj) (f:Nat->List Nat):Prop:=∀q (hq:q<P.length),w.ownsRow H 53 1 (.slice P[q].A P[q].l.length P[q].c) P[q].l.length ((f q).flatMap ai)
theorem dZ.alloc{f:Nat->List Nat}(h:dZ w H P f)(o:Obj):dZ (w.alloc o) H P f:=λq a=>(h q a).alloc o
theorem dZ.drew{f:Nat->List Nat}(h:dZ w H P f):dZ w.drew H P f:=λq a=>(h q a).drew
theorem dZ.set_{f f':Nat->List Nat}(h:dZ w H P f)(ap:kr P)(hq:q<P.length)(hb:(Value.slice P[q].A P[q].l.length P[q].c).ownBlock=some b){v:Nat}(h1:f' q=(f q).set i v)(h2:∀a,a≠q->f' a=f a):dZ (w.setCell ⟨b,i,none⟩ (.int .u64 (v:Int))) H P f':=λa j=>by
 by_cases e:a=q
 .subst e;rw[h1,jV];have k:=h a hq;rcases k.2 with⟨d,-⟩|⟨g,cap,cur,d,-⟩
  .rw[d] at hb;cases hb
  .rw[d] at hb k |-;injection hb with hb;subst hb;exact (k.stored i (.int .u64 (v:Int))).1
 .rw[h2 a e];refine ar (h a j) (λk=>?_) _;unfold kr at ap;rw[kzf] at ap;rcases kvh e with d|d
  .exact ap a q j hq d b k hb
  .exact ap q a hq j d b hb k
def vV (P:List Oj) (i j q:Nat):Nat:=if q<i then (P[q]?.map λx=>x.l.length).getD 0 else if q=i then j else 0
def rfF (T:List (List Nat)) (o:List Nat) (P:List Oj) (i j q:Nat):List Nat:=match P[q]? with
 | none=>[]
 | some x=>nN T o x.ob (vV P i j q)
theorem rfF_at(hi:i<P.length):rfF T o P i j i=nN T o P[i].ob j:=by unfold rfF vV;rw[kqj hi,if_neg (Nat.lt_irrefl i),if_pos rfl]
theorem sM{j':Nat}(hq:q≠i):rfF T o P i j q=rfF T o P i j' q:=by unfold rfF vV;rw[if_neg hq,if_neg hq]
theorem Cb(hq:q<P.length):rfF T o P 0 0 q=P[q].l:=by unfold rfF vV;rw[kqj hq,if_neg (by omega)];dsimp only;rw[show (if q=0 then 0 else 0)=0 by split<;>rfl,zW];rfl
theorem DB(hi:i<P.length)(q:Nat):rfF T o P i P[i].l.length q=rfF T o P (i+1) 0 q:=by
 unfold rfF vV;by_cases h:q<i
 .rw[if_pos h,if_pos (show q<i+1 by omega)]
 rw[if_neg h];by_cases e:q=i
 .subst e;rw[if_pos rfl,if_pos (kxs _),kqj hi];rfl
 rw[if_neg e,if_neg (show ¬ q<i+1 by omega)];rw[show (if q=i+1 then 0 else 0)=0 by split<;>rfl]
theorem Fx(hq:q<P.length):rfF T o P P.length 0 q=(kW T o P[q].ob).fl:=by unfold rfF vV;rw[kqj hq,if_pos hq,<-CW];rfl
open Lib (hid)
theorem refs_c(L:List Ty)(P:List Oj)(o:List Nat)(TA PA SA:Option Addr)(nt tc np pc ns sc n F NB g5 H:Nat)(fc:Array Value)(w:World)(hn9:n<=960)(hol:o.length<=n)(hnt:L.length=nt)(hnp:P.length=np)(hp9:np<=960)(hok:∀q (s:q<P.length),∃(T:Nat) (Fl:List Nat),P[q].typ=(T:Int)/\(L.map Ty.l)[T]? = some Fl/\yN Fl n P[q].l)(ap:kr P)(hH:H<=w.heap.size)(hOT:km w H (.slice TA nt tc) L)(hPR:w.ownsRow H 135 2 (.slice PA np pc) np (P.flatMap Oj.cells))(hFd:dZ w H P λq=>(P[q]?.map Oj.l).getD [])(h5:Bx w g5 137 #[.pointer (some ⟨F,0,none⟩)])(hFn:Bx w F 140 fc)(hfc:fc[3]? = some (.slice (some ⟨NB,0,none⟩) n n))(hN:Bx w NB 3 (rU n o)):
 Calls prog 75 #[.agg #[.slice TA nt tc,.slice PA np pc,.slice SA ns sc],.func (.func 76) #[] #[.pointer (some ⟨g5,0,none⟩)]] w λe w'=>e=.returned (.tuple #[])/\Rz H w w'/\dZ w' H P λq=>(P[q]?.map λx=>(kW (L.map Ty.l) o x.ob).fl).getD []:=by
 have R0:=hid ((Rz.refl H w).alloc hH (.cells #[.slice TA nt tc,.slice PA np pc,.slice SA ns sc] 72));have Jb:=Bx.new w 72 #[.slice TA nt tc,.slice PA np pc,.slice SA ns sc];obtain⟨p0,p1,-,-,-,-,-⟩:=Jb.c3;have HX:=hid Jb;have F0:Hid (dZ (w.alloc (.cells #[.slice TA nt tc,.slice PA np pc,.slice SA ns sc] 72)) H P (rfF (L.map Ty.l) o P 0 0)):=hid λq s=>by
  rw[Cb s];have:=hFd q s;dsimp only at this;rw[kqj s] at this;exact this.alloc _
 have Ki:=hid hok;have Kk:=hid ap;have Jp:=hid hnt;have Ju:=hid hnp;have Q:=hid (show km (w.alloc (.cells #[.slice TA nt tc,.slice PA np pc,.slice SA ns sc] 72)) H (.slice TA nt tc) L from ⟨hOT.1.alloc _,λx J=>(hOT.2 x J).alloc _⟩);have Jw:=hid (hPR.alloc (.cells #[.slice TA nt tc,.slice PA np pc,.slice SA ns sc] 72));have H5:=hid (h5.alloc (.cells #[.slice TA nt tc,.slice PA np pc,.slice SA ns sc] 72));have HF:=hid (hFn.alloc (.cells #[.slice TA nt tc,.slice PA np pc,.slice SA ns sc] 72));have HN:=hid (hN.alloc (.cells #[.slice TA nt tc,.slice PA np pc,.slice SA ns sc] 72));have Kf:=hid hfc;have Kh:=hid hol;have HH:Hid (H<=(w.alloc (.cells #[.slice TA nt tc,.slice PA np pc,.slice SA ns sc] 72)).heap.size):=hid (by rw[kqn];omega);clear hok ap hnt hnp hOT hPR hFd h5 hFn hfc hN hol hH Jb;go_enter func75,ntmps75;go_wp2_with fail;obtain⟨W0,Kd⟩:=xq (w.alloc (.cells #[.slice TA nt tc,.slice PA np pc,.slice SA ns sc] 72));rw[Kd] at R0 HX F0 Q Jw H5 HF HN HH |-;clear Kd p0 p1;go_loopw [11] (λvi wr=>∃i:Nat,i<=np/\vi=.int .i64 i/\Hid (Rz H W0 wr)/\Hid (dZ wr H P (rfF (L.map Ty.l) o P i 0))) (λi _=>np-(intOf i).toNat)
 case atStart=>exact⟨0,kqy _,rfl,hid (Rz.refl _ _),F0⟩
 obtain⟨i,hi,rfl,Z,Jc⟩:=hrel;have Jl:H<=wr.heap.size:=kza HH.out Z.out.size;by_cases Js:i<np
 .have u:i<P.length:=by rw[Ju.out];exact Js
  obtain⟨gP,oP,rfl,Km,hc⟩:=Rd.at_flat Oj.len (Rd.of_own (Z.out.own (by decide) Jw.out)) (by omega) u;have r0:wr.cell? ⟨gP,oP+i*2,none⟩=some (.int .i64 P[i].typ):=hc 0 (by omega);have r1:wr.cell? ⟨gP,oP+i*2+1,none⟩=some (.slice P[i].A P[i].l.length P[i].c):=hc 1 (by omega);obtain⟨T,Fl,t1,t2,t3⟩:=Ki.out i u;have Jj:T<L.length:=by have:=(kq7.1 t2).1;rw[kqs] at this;exact this
  have Je:L[T].l=Fl:=by rw[kzh,kqj Jj] at t2;injection t2
  have Eq:km wr H (.slice TA nt tc) L:=⟨Z.out.own (by decide) Q.out.1,λx J=>Z.out.own (by decide) (Q.out.2 x J)⟩;obtain⟨gT,oT,rfl,Ka,rT⟩:=fE (Rd.of_own (show wr.ownsRow H 113 1 (.slice TA nt tc) nt (L.flatMap Ty.cells) from by have h1:=Eq.1;rw[Jp.out] at h1;exact h1)) Jj;have S:=Q.out.2 _ (kqm Jj);obtain⟨x,J⟩:=xq (P[i]);obtain⟨y,hy⟩:=xq (L[T]);rw[J] at r0 r1 t1 t3;rw[hy] at Je S rT;obtain⟨xt,R,K,f⟩:=x;obtain⟨yA,yc,yl⟩:=y;dsimp only at r0 r1 t1 t3 Je S rT;subst Je t1;have Kc:Hid (∀j,qi (L.map Ty.l) (T:Int) j=true↔yl[j]? = some 3):=hid λj=>by
   unfold qi;rw[kqk,t2,kqx];rfl
  have g:=hid (show ∀j,rfF (L.map Ty.l) o P i j i=nN (L.map Ty.l) o ⟨(T:Int),f⟩ j from λj=>by rw[rfF_at u,J];rfl);have D:=hid (show ∀(W:World) j,dZ W H P (rfF (L.map Ty.l) o P i j)->W.ownsRow H 53 1 (.slice R f.length K) f.length ((nN (L.map Ty.l) o ⟨(T:Int),f⟩ j).flatMap ai) from λW j h=>by
   have:=h i u;rw[g.out j,J] at this;exact this)
  have I:=hid (show ∀(W:World) j b v,dZ W H P (rfF (L.map Ty.l) o P i j)->(Value.slice R f.length K).ownBlock=some b->(nN (L.map Ty.l) o ⟨(T:Int),f⟩ j).set j v=nN (L.map Ty.l) o ⟨(T:Int),f⟩ (j+1)->dZ (W.setCell ⟨b,j,none⟩ (.int .u64 (v:Int))) H P (rfF (L.map Ty.l) o P i (j+1)) from λW j b v h hb he =>
   h.set_ Kk.out u (by rw[J];exact hb) (by rw[g.out,g.out,he]) (λq' Kj=>sM Kj))
  have G:=hid (show rfF (L.map Ty.l) o P i f.length=rfF (L.map Ty.l) o P (i+1) 0 from funext λq=>by have:=DB (T:=L.map Ty.l) (o:=o) u q;rw[J] at this;exact this);have Ji:=hid S;have Jr:=hid t3;obtain⟨d,U⟩:=xq f.length;have Jh:yl.length=d:=t3.1.trans U;have hF8:d<=8:=by have:=t3.2.1;omega
  have Ke:=hid U;have Kl:=hid Jh;rw[U] at r1 D I G;rw[Jh] at rT Ji;have hTn:T<nt:=by have:=Jp.out;omega
  have hT0:(0:Int)<=(T:Int):=by omega
  have hT1:(T:Int)<(nt:Int):=by omega
  have hk0:(0:Int)<=(i:Int):=by omega
  have hk1:(i:Int)<(np:Int):=by omega
  have R2:=hid (Z.out.alloc Jl (.cells #[.int .i64 (T:Int),.slice R d K] 135));have F2:=hid (Jc.out.alloc (.cells #[.int .i64 (T:Int),.slice R d K] 135));have O2:=Bx.new wr 135 #[.int .i64 (T:Int),.slice R d K];have X2:=(Z.out.box (by decide) (show Bx W0 w.heap.size 72 #[.slice (some ⟨gT,oT,none⟩) nt tc,.slice (some ⟨gP,oP,none⟩) np pc,.slice SA ns sc] from HX.out)).alloc (.cells #[.int .i64 (T:Int),.slice R d K] 135);have rT2:=(kq4 wr (.cells #[.int .i64 (T:Int),.slice R d K] 135) ⟨gT,oT+T,none⟩ Ka).trans rT;obtain⟨x0,-,-,-,-,-,-⟩:=X2.c3;obtain⟨y0,y1,-,-,-⟩:=O2.c2;have Jd:=hid O2;clear hc t2 Eq S J hy t3 U Jh rT X2 O2 Z Jc;go_wp2_with fail;obtain⟨W2,Jv⟩:∃W2,wr.alloc (.cells #[.int .i64 (T:Int),.slice R d K] 135)=W2:=⟨_,rfl⟩;rw[Jv] at R2 F2 Jd |-;have hH2:H<=W2.heap.size:=kza HH.out R2.out.size;obtain⟨gB,Jk⟩:=xq wr.heap.size;rw[Jk] at Jd |-;clear Jv x0 y0 y1 rT2 r0 r1 Jl Km Ka Jk;go_loopw [23] (λvi wr=>∃j:Nat,j<=d/\vi=.int .i64 j/\Hid (Rz H W0 wr)/\Hid (Bx wr gB 135 #[.int .i64 (T:Int),.slice R d K])/\Hid (dZ wr H P (rfF (L.map Ty.l) o P i j))) (λj _=>d-(intOf j).toNat)
  case atStart=>exact⟨0,kqy _,rfl,R2,Jd,F2⟩
  obtain⟨j,hj,rfl,M,p,a⟩:=hrel;by_cases E:j<d
  .have t:j<f.length:=by rw[Ke.out];exact E
   have N:j<yl.length:=by rw[Kl.out];exact E
   obtain⟨gy,oy,rfl,hgy,y0⟩:=RdY.at_ (Rd.of_own (M.out.own (by decide) Ji.out)) N;obtain⟨Y,-,C⟩:=Jr.out.2.2 j t;have z:=Kc.out j;rw[kqj N] at C z;have V:fdO ⟨(T:Int),f⟩ j=f[j]:=zE (x:=⟨(T:Int),f⟩) t;have hj0:(0:Int)<=(j:Int):=by omega
   have hj1:(j:Int)<(d:Int):=by omega
   obtain⟨kd,B⟩:=xq (yl[j]);rw[B] at y0 C z;by_cases Jg:kd=3
   .subst Jg;have Ja:=C rfl;have X:=z.2 rfl;have r:=D.out wr j a.out;obtain⟨Jn,Kb⟩:=Fq (T:=L.map Ty.l) (o:=o) (x:=⟨(T:Int),f⟩) t;obtain⟨gf,of,Jy,hgf,v0⟩:=RdW.at_ (Rd.of_own r) Jn;rw[Kb] at v0;dsimp only at v0;obtain⟨g',cap,cur,m,-,e3,-⟩:=r.2.resolve_left (λh=>by have:=h.2;omega);injection m with m _ e12;subst e12;rw[Jy] at m;injection m with m;injection m with m e11;subst m e11 Jy;rw[kxm] at v0;have Jq:=Bx.frozen (show Bx wr gf 53 cur from e3) j;obtain⟨v,hv⟩:=xq (f[j]);rw[hv] at v0 Ja V;have HC:=hid (Cy F NB g5 n v gf j o (.int .i64 (i:Int)) wr hn9 Kh.out Ja ((M.out.box (by decide) H5.out).cell 0) (((M.out.box (by decide) HF.out).cell 3).trans Kf.out) (M.out.box (by decide) HN.out) v0 Jq);have Jf:=hid r;have O:=hid V;have Jz:=hid X;have Jt:=hid t;obtain⟨-,c1,-,-,-⟩:=p.out.c2;clear z C Y Ja r Jn Kb e3 Jq hv v0 V X B t N;go_wp2_with fail;refine HC.out.mono ?_;rintro e w6 ⟨rfl,Jo⟩;have F6:Hid (Rz H W0 w6/\Bx w6 gB 135 #[.int .i64 (T:Int),.slice (some ⟨gf,0,none⟩) d K]/\dZ w6 H P (rfF (L.map Ty.l) o P i (j+1))):=hid (by
     rcases Jo with⟨h0,rfl⟩|⟨h0,rfl⟩
     .refine ⟨M.out,p.out,λq s=>?_⟩;by_cases e:q=i
      .subst e;rw[g.out,rL (λh=>h.2 (O.out.trans h0)),<-g.out];exact a.out q s
      rw[sM (j':=j) e];exact a.out q s
     have hr:=M.out.drew.set_ Jf.out.drew rfl j (.int .u64 (jN o (v-1):Int));refine⟨hr,(show Bx wr.drew gB 135 _ from p.out).far ?_ _,I.out _ j gf _ a.out.drew rfl ?_⟩
     .show gB≠gf;intro e;subst e;obtain⟨g',cap,cur,m,-,e3,-⟩:=Jf.out.2.resolve_left (λh=>by cases h.1);injection m with m _ _;injection m with m;injection m with m _;subst m;have:=p.out.symm.trans e3;injection this with this;injection this with _ h6;revert h6;decide
     have:=DO (T:=L.map Ty.l) (o:=o) (x:=⟨(T:Int),f⟩) Jt.out Jz.out (by rw[O.out];exact h0);rw[O.out] at this;exact this)
    clear Jo HC Jf O Jz Jt M p a c1 y0;go_wp2;go_roundw
    case rel=>exact⟨j+1,by omega,by go_num,hid F6.out.1,hid F6.out.2.1,hid F6.out.2.2⟩
    case measure=>simp[intOf];omega
   have e3:((kd:Int)==3)=false:=by rw[kqi];omega
   have e3n:(kd==3)=false:=by rw[kqi];exact Jg
   have Jm:¬ (qi (L.map Ty.l) (T:Int) j=true/\fdO ⟨(T:Int),f⟩ j≠0):=λh=>Jg (by have:=z.1 h.1;injection this);have F6:Hid (dZ wr H P (rfF (L.map Ty.l) o P i (j+1))):=hid λq s=>by
    by_cases e:q=i
    .subst e;rw[g.out,rL Jm,<-g.out];exact a.out q s
    rw[sM (j':=j) e];exact a.out q s
   clear z C Y B t N V Jm a;go_wp2;go_roundw
   case rel=>exact⟨j+1,by omega,by go_num,M,p,F6⟩
   case measure=>simp[intOf];omega
  obtain rfl:d=j:=by omega
  have B:decide ((d:Int)<(d:Int))=false:=by rw[kqh];omega
  have Kg:decide (d<d)=false:=by rw[kqh];exact E
  rw[G.out] at a;clear p F2 R2 I D g Kc Jr Ji G;go_wp2;go_roundw
  case rel=>exact⟨i+1,by omega,by go_num,M,a⟩
  case measure=>simp[intOf];omega
 obtain rfl:np=i:=by omega
 have B:decide ((np:Int)<(np:Int))=false:=by rw[kqh];omega
 have Kg:decide (np<np)=false:=by rw[kqh];exact Js
 go_wp2_with fail;refine bodyPost_end (v:=.tuple #[]) (by simp[results,results75,go_sem]) rfl ?_;refine⟨rfl,R0.out.trans Z.out,λq s=>?_⟩;dsimp only;rw[kqj s];have:=Jc.out q s;rw[<-Ju.out,Fx s] at this;exact this
section
variable {P:Program} {ops:Array Oper} {Q:Exit->Act->World->Prop} {md:Region.Mode} {S:World->Prop} {L:Nat}
theorem qS{ls:List Bool}(h:ls[i]? = some false):(ls.set i true).count false+1=ls.count false:=by
 induction ls generalizing i with
 | nil=>cases h
 | cons x l ih =>
  cases i with
  | zero =>simp only[kk2,Option.some.injEq] at h;subst h;simp
  | succ i =>simp only[kkv] at h;simp only[kqd,List.count_cons];have:=ih h;omega
theorem oK{ls:Array Bool}(h:ls.getD i true=false):ls.toList[i]? = some false:=by
 rcases kq9 i ls.size with a|a
 .simp[a] at h;rw[kki,kkn a,h]
 simp[Array.getElem?_eq_none a] at h
def upOp (P:Program) (ops:Array Oper) (Q:Exit->Act->World->Prop) (i:Nat) (R:Act->World->Prop) (a:Act) (w:World):Prop:=
 ∃o,ops[i]? = some o/\Region.wanted o (yielded ops a.tmps)=true/\∀K:Act->World->Prop,(∀a' w',R a' w'->K a' w')->o.wp P a w K Q
theorem FS(Inv:Array Bool->Act->World->Prop)(hstep:∀b a w,Inv b a w->(Region.ready md ops b=[]->Q .normal a w)/\∀i∈Region.ready md ops b,upOp P ops Q i (λj w'=>(i≠L->S w')/\Inv (b.setIfInBounds i true) j w') a w):
 ∀(f:Nat) (b:Array Bool) (a:Act) (w:World),b.toList.count false<=f->Inv b a w->wpL P md ops Q S L f b a w:=by
 intro f
 induction f with
 | zero =>
  intro b a w n e;have g:Region.ready md ops b=[]:=by rw[List.eq_nil_iff_forall_not_mem];intro i c;have d:=oK (mem_ready.1 c).1;have:=qS d;omega
  exact⟨g,(hstep b a w e).1 g⟩
 | succ f ih =>intro b a w n e;obtain⟨d,k⟩:=hstep b a w e;refine⟨d,λi c=>?_⟩;obtain⟨o,l,m,p⟩:=k i c;have h3:=qS (oK (mem_ready.1 c).1);unfold wpOp;simp only[l,m,if_true];refine .inl (p _ λj w' h=>⟨h.1,ih _ _ _ ?_ h.2⟩);rw[Array.toList_setIfInBounds];omega
theorem Do{ls:Array Bool}(h:(Region.ready md ops ls).isEmpty=false)(hr:Region.ready md ops ls=[]):False:=by rw[hr] at h;cases h
theorem Cm{ls:Array Bool}{p:Nat->Bool}(h:(Region.ready md ops ls).all p=true)(hi:i∈Region.ready md ops ls):p i=true:=kzq.1 h i hi
end
theorem jo{g:Nat}{t e:TypeId}{cs:Array Value}(hb:Bx w g t cs)(he:e≠t)(ho:w.ownsRow H e sz v n xs)(i:Nat)(u:Value):(w.setCell ⟨g,i,none⟩ u).ownsRow H e sz v n xs:=by
 refine ar ho (λh=>?_) u;rcases ho.2 with⟨rfl,-⟩|⟨b,cap,cur,rfl,-,a,-⟩
 .cases h
 injection h with h;have h:b=g:=h;subst h;have:=a.symm.trans hb;injection this with this;injection this with _ h6;exact he h6
def E0 (e:TypeId):Prop:=e=113\/e=5\/e=135\/e=53\/e=52
theorem lR.keep(h:lR m H e w)(f:∀ {el:TypeId} {sz n:Nat} {v:Value} {xs:List Value},E0 el->w.ownsRow H el sz v n xs->w'.ownsRow H' el sz v n xs):lR m H' e w':=by obtain⟨TB,td,L,o,i,O,SB,sd,d,b,c,j,g,l,k⟩:=h;exact⟨TB,td,L,o,i,O,SB,sd,d,⟨f (.inl rfl) b.1,λx a=>f (.inr (.inl rfl)) (b.2 x a)⟩,⟨f (.inr (.inr (.inl rfl))) c.1,λx a=>f (.inr (.inr (.inr (.inl rfl)))) (c.2 x a)⟩,j,f (.inr (.inr (.inr (.inr rfl)))) g,l,k⟩
theorem lR.alloc(h:lR m H e w)(o:Obj):lR m H e (w.alloc o):=h.keep λ_ a=>a.alloc o
theorem lR.mono(h:lR m H e w)(hH:H'<=H):lR m H' e w:=h.keep λ_ a=>aB a hH
theorem cp_not{el:TypeId}(h:E0 el):el≠3/\el≠140/\el≠137/\el≠72:=by rcases h with rfl|rfl|rfl|rfl|rfl<;>decide
def rm (v0 p1 p2 p19 s20 n21 t5 t18 t22 t23 t24:Value):Act:={ tmps:=#[v0,p1,p2,.int .i64 0,.int .i64 0,t5,undef,undef,undef,undef,undef,v0,.int .i64 0,.int .i64 0,.bool false,undef,undef,v0,t18,p19,s20,n21,t22,t23,t24,undef,undef,undef,undef,undef,undef,undef,undef,undef,undef,undef,undef,undef,undef,undef,undef,undef,undef,undef,undef,undef,undef,undef,undef,undef,undef,undef,undef,undef,undef,undef,undef,undef,undef,undef,undef,undef,undef,undef,undef,undef,undef,undef,undef,undef,undef,undef,undef,undef,undef,undef,undef,undef,undef,undef,undef,undef,undef,undef,undef,undef,undef,undef,undef,undef,undef,undef,undef,undef,undef],defers:=[] }
structure CnF (m:Md) (n:Nat) (w0 W:World) (c1 c5 c6 c7 c8 c9:Bool) (t5 t18 t22 t23 t24:Value):Prop where
 b:Below w0.heap.size w0 W
 o6:c6=true->c1=true/\c5=true
 o7:c7=true->c6=true
 o9:c9=true->c7=true/\c8=true
 f1:c1=true->lR m w0.heap.size (.returned t18) W
 f5:c5=true->∃NB,w0.heap.size<=NB/\t22=.slice (some ⟨NB,0,none⟩) n n/\Bx W NB 3 (rU n [])
 f6:c6=true->∃a1 a2 a3,t18=.agg #[a1,a2,a3]/\t23=.agg #[a1,a2,a3,t22,.slice none 0 0]
 f7:c7=true->∃F,w0.heap.size<=F/\t24=.pointer (some ⟨F,0,none⟩)/\∃a1 a2 a3,t18=.agg #[a1,a2,a3]/\Bx W F 140 #[a1,a2,a3,t22,.slice none 0 0]
 f8:c8=true->∃g5,w0.heap.size<=g5/\t5=.pointer (some ⟨g5,0,none⟩)/\Bx W g5 137 #[if c9=true then t24 else .pointer none]
def CnInv (m:Md) (n:Nat) (w0:World) (v0 p1 p2 p19 s20 n21:Value) (ls:Array Bool) (a:Act) (W:World):Prop:=
 ∃(c1 c5 c6 c7 c8 c9:Bool) (t5 t18 t22 t23 t24:Value),ls=#[true,c1,true,true,true,c5,c6,c7,c8,c9]/\a=rm v0 p1 p2 p19 s20 n21 t5 t18 t22 t23 t24/\Hid (CnF m n w0 W c1 c5 c6 c7 c8 c9 t5 t18 t22 t23 t24)
section
variable {m:Md} {n:Nat} {w0 W:World} {c1 c5 c6 c7 c8 c9:Bool} {t5 t18 t22 t23 t24:Value}
theorem num0(n:Nat):rU n []=madeCells #[.int .i64 0] n:=by
 apply kkw;intro i;by_cases a:i<n
 .rw[gY _ a];simp[madeCells,a,jN,Nat.mod_one]
 rw[kz8 (by simp[rU];omega),kz8 (by rw[size_madeCells];omega)]
theorem CnF.start(m:Md)(n:Nat)(w0:World)(t5 t18 t22 t23 t24:Value):CnF m n w0 w0 false false false false false false t5 t18 t22 t23 t24:=
 ⟨kql _ _,by simp,by simp,by simp,by simp,by simp,by simp,by simp,by simp⟩
theorem CnF.op1(h:CnF m n w0 W false c5 c6 c7 c8 c9 t5 t18 t22 t23 t24){W':World}{u:Value}(hc:lR m W.heap.size (.returned u) W')(hb:Below W.heap.size W W'):CnF m n w0 W' true c5 c6 c7 c8 c9 t5 u t22 t23 t24:=by
 have j:c6=false:=by
  cases e:c6 with
  | false=>rfl
  | true=>have:=(h.o6 e).1;cases this
 subst j;have i:c7=false:=by
  cases e:c7 with
  | false=>rfl
  | true=>have:=h.o7 e;cases this
 subst i;refine⟨h.b.trans (hb.mono h.b.size),by simp,by simp,h.o9,λ_=>hc.mono h.b.size,λq=>?_,by simp,by simp,λq=>?_⟩
 .obtain ⟨f,c,d,a⟩:=h.f5 q;exact⟨f,c,d,a.up hb a.lt⟩
 obtain⟨g,c,d,a⟩:=h.f8 q;exact⟨g,c,d,a.up hb a.lt⟩
theorem CnF.op5(h:CnF m n w0 W c1 false c6 c7 c8 c9 t5 t18 t22 t23 t24):CnF m n w0 (W.alloc (.cells (madeCells #[.int .i64 0] n) 3)) c1 true c6 c7 c8 c9 t5 t18 (.slice (some ⟨W.heap.size,0,none⟩) n n) t23 t24:=by
 have i:c6=false:=by
  cases a:c6 with
  | false=>rfl
  | true=>have:=(h.o6 a).2;cases this
 subst i;have g:c7=false:=by
  cases a:c7 with
  | false=>rfl
  | true=>have:=h.o7 a;cases this
 subst g;refine⟨h.b.alloc h.b.size _,by simp,by simp,h.o9,λq=>(h.f1 q).alloc _,λ_=>⟨W.heap.size,h.b.size,rfl,?_⟩,by simp,by simp,λq=>?_⟩
 .rw[num0];exact Bx.new _ _ _
 obtain⟨f,c,d,e⟩:=h.f8 q;exact⟨f,c,d,e.alloc _⟩
theorem CnF.op6(h:CnF m n w0 W c1 c5 false c7 c8 c9 t5 t18 t22 t23 t24)(h1:c1=true)(h5:c5=true)(e:t18=.agg #[a1,a2,a3]):CnF m n w0 W c1 c5 true c7 c8 c9 t5 t18 t22 (.agg #[a1,a2,a3,t22,.slice none 0 0]) t24:=by
 have a:c7=false:=by
  cases c:c7 with
  | false=>rfl
  | true=>have:=h.o7 c;cases this
 subst a;exact⟨h.b,λ_=>⟨h1,h5⟩,by simp,h.o9,h.f1,h.f5,λ_=>⟨a1,a2,a3,e,rfl⟩,by simp,h.f8⟩
theorem CnF.op7(h:CnF m n w0 W c1 c5 c6 false c8 c9 t5 t18 t22 t23 t24)(h6:c6=true)(e:t18=.agg #[a1,a2,a3]):CnF m n w0 (W.alloc (.cells #[a1,a2,a3,t22,.slice none 0 0] 140)) c1 c5 c6 true c8 c9 t5 t18 t22 t23 (.pointer (some ⟨W.heap.size,0,none⟩)):=by
 have f:c9=false:=by
  cases i:c9 with
  | false=>rfl
  | true=>have:=(h.o9 i).1;cases this
 subst f;refine⟨h.b.alloc h.b.size _,h.o6,λ_=>h6,by simp,λq=>(h.f1 q).alloc _,λq=>?_,h.f6,λ_=>⟨W.heap.size,h.b.size,rfl,a1,a2,a3,e,Bx.new _ _ _⟩,λq=>?_⟩
 .obtain ⟨g,a,c,d⟩:=h.f5 q;exact⟨g,a,c,d.alloc _⟩
 obtain⟨j,a,c,d⟩:=h.f8 q;exact⟨j,a,c,d.alloc _⟩
theorem CnF.op8(h:CnF m n w0 W c1 c5 c6 c7 false c9 t5 t18 t22 t23 t24):CnF m n w0 (W.alloc (.cells #[.pointer none] 137)) c1 c5 c6 c7 true c9 (.pointer (some ⟨W.heap.size,0,none⟩)) t18 t22 t23 t24:=by
 have f:c9=false:=by
  cases i:c9 with
  | false=>rfl
  | true=>have:=(h.o9 i).2;cases this
 subst f;refine⟨h.b.alloc h.b.size _,h.o6,h.o7,by simp,λq=>(h.f1 q).alloc _,λq=>?_,h.f6,λq=>?_,λ_=>⟨W.heap.size,h.b.size,rfl,Bx.new _ _ _⟩⟩
 .obtain ⟨g,a,c,d⟩:=h.f5 q;exact⟨g,a,c,d.alloc _⟩
 obtain⟨F,a,c,k,l,j,d,e⟩:=h.f7 q;exact⟨F,a,c,k,l,j,d,e.alloc _⟩
theorem CnF.op9(h:CnF m n w0 W c1 c5 c6 c7 c8 false t5 t18 t22 t23 t24)(h7:c7=true)(h8:c8=true){g5:Nat}(e:t5=.pointer (some ⟨g5,0,none⟩))(hb:Bx W g5 137 #[.pointer none])(hg:w0.heap.size<=g5):CnF m n w0 (W.setCell ⟨g5,0,none⟩ t24) c1 c5 c6 c7 c8 true t5 t18 t22 t23 t24:=by
 have a:∀ {g:Nat} {t:TypeId} {cs:Array Value},t≠137->Bx W g t cs->Bx (W.setCell ⟨g5,0,none⟩ t24) g t cs:=λj i=>i.far (p:=⟨g5,0,none⟩) (λe=>by
  have e:_=g5:=e;subst e;have:=i.symm.trans hb;injection this with this;injection this with _ h6;exact j h6) _
 refine⟨h.b.setCell (p:=⟨g5,0,none⟩) hg _,h.o6,h.o7,λ_=>⟨h7,h8⟩,λq=>(h.f1 q).keep λs o=>jo hb (cp_not s).2.2.1 o _ _,λq=>?_,h.f6,λq=>?_,λ_=>⟨g5,hg,e,?_⟩⟩
 .obtain ⟨l,c,d,f⟩:=h.f5 q;exact⟨l,c,d,a (by decide) f⟩
 .obtain ⟨F,c,d,u,v,r,f,k⟩:=h.f7 q;exact⟨F,c,d,u,v,r,f,a (by decide) k⟩
 rw[if_pos rfl];exact hb.set_ 0 t24
end
end Go.Proofs.YtpcajamacpbjcaaGreat
