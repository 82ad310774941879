import Derived.Test.YtpcajamacpbjcaaGreatZKLy1
import Derived.Test.YtpcajamacpbjcaaGreatZKCp1
import Derived.Laws.CopyOwn
set_option maxHeartbeats 16000000
set_option maxRecDepth 100000
set_option linter.all false
namespace Go.Proofs.YtpcajamacpbjcaaGreat
open Go.RowKit Go.Maps
variable {T:List (List Nat)}{O:List Bk}{G:List Nat}{xs:List Value}{g k n sz t:Nat}{e:TypeId}{w:World}
open Go.Proofs.Tryz
theorem jF(f:FuncId)(A s r m:Option Addr)(O:List Bk)(p:Bk->Bool)(c n z B v y u F t:Nat)(w:World)(d:O.length=F)(hm:F<=1000000)(q:RdB w w.heap.size m O)(b:∀args W,(callFunc f args).run prog W=.ok (.enter f args) W)(l:∀k (h:k<O.length) W,Below w.heap.size w W->Calls prog f #[.agg #[.slice A n c,.slice s B z,.slice r y v,.slice m F u,.map (some t)],O[k].val] W λe a=>e=.returned (.bool (p O[k]))/\Below W.heap.size W a):
 Calls prog 100 #[.agg #[.slice A n c,.slice s B z,.slice r y v,.slice m F u,.map (some t)],.func (.func f) #[.agg #[.slice A n c,.slice s B z,.slice r y v,.slice m F u,.map (some t)]] #[]] w λe a=>e=.returned (.bool (O.all p))/\Below w.heap.size w a:=by
 subst d;obtain⟨g,i,V,J,D⟩:=yq3 (Bx.new w 163 #[.slice A n c,.slice s B z,.slice r y v,.slice m O.length u,.map (some t)]) ((kqe w.heap.size w).alloc (kqa _) (.cells #[.slice A n c,.slice s B z,.slice r y v,.slice m O.length u,.map (some t)] 163)) q l b;have T:Hid ((∀j (h:j<O.length),p O[j]=true)->O.all p=true):=y5 λh=>kzt.2 λx H=>by
  obtain⟨j,o,rfl⟩:=kqy H;exact h j o
 have U:Hid (∀j (h:j<O.length),p O[j]=false->O.all p=false):=y5 λj o h=>by
  cases d:O.all p with
  | false=>rfl
  | true=>rw[kzt.1 d _ (kqp o)] at h;cases h
 obtain⟨K,a⟩:=xq (w.alloc (.cells #[.slice A n c,.slice s B z,.slice r y v,.slice m O.length u,.map (some t)] 163));have I:=y5 (show Below w.heap.size w K by rw[<-a];exact i.out);rw[a] at g;obtain⟨q0,q1,q2,q3,q4,-,-⟩:=g.out.c5;clear q l g i b;go_enter func100,ntmps100;go_wp2_with fail;clear a;go_loopw [10] (λi wr=>∃k:Nat,k<=O.length/\i=.int .i64 k/\Hid (∀j (h:j<O.length),j<k->p O[j]=true)/\Below w.heap.size w wr) (λi _=>O.length-(intOf i).toNat)
 case atStart=>exact⟨0,kqv _,rfl,y5 λj _ h=>absurd h (by omega),I.out⟩
 obtain⟨k,X,rfl,L,G⟩:=hrel;have Y:=G.size;by_cases g:k<O.length
 .obtain ⟨b,off,rfl,E,M,N,P,Q,R,S⟩:=RdB.at_ (Rd.below V.out G) g;have C:=y5 (J.out k g);have l:Hid (p O[k]=true->∀j (h:j<O.length),j<k+1->p O[j]=true):=y5 λi j o h=>by
   rcases kq8 j k with a|a
   .exact L.out j o a
   have:j=k:=(by omega);subst this;exact i
  have i:=y5 (U.out k g);obtain⟨x,H⟩:=xq (O[k]);rw[H] at M N P Q R S C l i;obtain⟨q,d⟩:=xq (p x);rw[d] at C l i;obtain⟨xa,xs,xk,xt,xm,xn⟩:=x;dsimp only[Bk.val] at M N P Q R S C;have hki:(k:Int)<(O.length:Int):=(by omega);have hk0:(0:Int)<=(k:Int):=(by omega);have a:=y5 (G.alloc Y (.cells #[.int .i64 xa,.int .i64 xs,.int .i64 xk,.int .i64 xt,.bool xm,.int .u64 (xn:Int)] 55));clear H d E;cases q
  .have E:=y5 (i.out rfl);go_wp2_with fail;rw[D.out];simp only[Oper.upon];refine (C.out _ a.out).mono ?_;rintro e Z ⟨rfl,d⟩;have h:=yq7 a d;clear d;go_wp2;go_ret;exact⟨by rw[E.out];rfl,h.out⟩
  have E:=y5 (l.out rfl);go_wp2_with fail;rw[D.out];simp only[Oper.upon];refine (C.out _ a.out).mono ?_;rintro e Z ⟨rfl,d⟩;have h:=yq7 a d;clear d;go_wp2;go_roundw;exact⟨k+1,by omega,by go_num,E,h.out⟩;simp[intOf];omega
 have a:k=O.length:=(by omega);have E:=y5 (T.out λj o=>L.out j o (by omega));have hend:decide ((k:Int)<(O.length:Int))=false:=(by rw[kqb];omega);have hendn:decide (k<O.length)=false:=by rw[kqb];exact g
 clear a g X;go_wp2;go_ret;exact⟨by rw[E.out];rfl,G⟩
theorem vI:(prog.info? 163).map (·.size)=some 5:=by kernel_rfl
theorem zeroSg(w:World):(zeroValue 163).run prog w=.ok (.agg #[.slice none 0 0,.slice none 0 0,.slice none 0 0,.slice none 0 0,.map none]) w:=by kernel_rfl
theorem fL{fn:Func}{p q:Tmp}(h:fn.results=#[.cell p 163,.tmp q])(a:Array Value){W:World}{t:TypeId}{cs:Array Value}{u:Value}(d:Bx W g t cs)(k:cs.size=5)(i:a.getD p undef=.pointer (some ⟨g,0,none⟩))(j:a.getD q undef=u):
 (results fn a).run prog W=.ok (.tuple #[.agg cs,u]) W:=by
 have b:a[p]?.getD undef=.pointer (some ⟨g,0,none⟩):=by simpa using i
 have c:a[q]?.getD undef=u:=by simpa using j
 have e:(prog.info? 163).map (·.size)=some cs.size:=by rw[k];exact vI
 have f:=run_loadVar_row W g t 163 cs (0,0) _ d underlying163 rfl e;simp[results,h,b,c,asAddr,f]
structure PtOk (G:List Nat) (A:Option Addr) (n c:Nat) (w':World) (sv:Array Value) (t:Nat) (l:List Bk):Prop where
 ty:tyN G=some t
 bl:blocks G 128=some l
 z1:fF G 16=true
 z2:fF G 24=true
 tys:iG G t=true
 sls:slsOk G=true
 adj:kE l=true
 mem:∃(TA SA OA:Option Addr) (tc sc oc mb:Nat) (L:List Ty),sv=#[.slice A n c,.slice TA L.length tc,.slice SA 16 sc,.slice OA (aP l).length oc,.map (some mb)]/\RdL w' w'.heap.size TA L/\L.map Ty.l=iu G t 8/\RdS w' w'.heap.size SA (slL G)/\RdB w' w'.heap.size OA (aP l)/\w'.ownsMap prog 3 (plainElem prog 4) mb (aP l).length (fI ((aP l).map Bk.at_) (aP l).length)
def PtRes (G:List Nat) (A:Option Addr) (n c:Nat) (e:Ending) (w':World):Prop:=∃(r:Int) (sv:Array Value),e=.returned (.tuple #[.agg sv,.int .i64 r])/\0<=r/\(r≠0->lay G=false/\sv=#[.slice none 0 0,.slice none 0 0,.slice none 0 0,.slice none 0 0,.map none])/\(r=0->∃t l,PtOk G A n c w' sv t l)
def Gp (H:Nat) (G:List Nat) (e:Ending) (w':World):Prop:=(eg G=0->∃g,e=.returned (.tuple #[.slice (some ⟨g,0,none⟩) 16 16,.int .i64 (eg G)])/\H<=g/\Bx w' g 118 ((slL G).flatMap Sl.cells).toArray)/\(eg G≠0->e=.returned (.tuple #[.slice none 0 0,.int .i64 (eg G)]))
theorem ID(A:Option Addr)(G:List Nat)(c n:Nat)(w:World)(b:G.length=n)(a:n<=9223372036854775807)(s:RdW w w.heap.size A G)(d:∀x∈G,x<2^64):
 Calls prog 25 #[.slice A n c] w λe f=>Gp w.heap.size G e f/\Below w.heap.size w f:=by
 have o:=y5 (Cn A G c n w b a s d);clear s d b a;have q:=gX;by_cases f:eg G=0
 .have b:fE G=slL G:=by simp[fE,f]
  have C:=y5 (And.intro f b);have h:=fi G;rw[f,Ju f] at o;have d:(iM (slL G)).size=48:=by rw[iK,fi]
  obtain⟨l,a⟩:=xq (slL G);have B:=y5 a;rw[a] at d o h C;have r:Hid (iM l=(l.flatMap Sl.cells).toArray):=y5 rfl;have F:=y5 (kM l);obtain⟨y,g⟩:=xq (iM l);rw[g] at o d r F;have p:(prog.info? 118).map (·.size)=some y.size:=by rw[d];exact kF
  clear f b a g h q;go_enter func25,ntmps25;go_wp2_with fail;refine o.out.mono ?_;rintro e t ⟨rfl,a⟩;have E:=nW;have D:y.size=ci.size:=by rw[d,gX]
  have v:=Bx.new t 118 ci;obtain⟨z,m⟩:=yq0 v (a.alloc a.size (.cells ci 118));have j:=a.size;clear v a;go_wp2_with (first
   | ((with_reducible refine aj 118 (.tmp 4) _ ?_);refine ai rfl _ _ _ rfl t.heap.size 118 ci y (by rfl) (by rfl) z.out D p F.out ?_;intro H i g;have u:=y5 i;have k:=y5 (g.below m.out j);clear i g))
  go_ret2;refine⟨⟨λ_=>⟨t.heap.size,by rw[C.out.1];rfl,j,?_⟩,λh=>absurd C.out.1 h⟩,k.out⟩;have:=u.out;rw[r.out] at this;rw[B.out];exact this
 have b:fE G=[]:=by simp[fE,f]
 rw[FS f] at o;obtain⟨r,s⟩:=xq (eg G);have l:=y5 s;rw[s] at o f;have y:=y5 f;have hrn:(r != 0)=true:=by rw[kqx];exact f
 have j:=y5 lO;have p:(prog.info? 118).map (·.size)=some ci.size:=by rw[q];exact kF
 clear f b s q;go_enter func25,ntmps25;go_wp2_with fail;refine o.out.mono ?_;rintro e t ⟨rfl,a⟩;have E:=nW;have v:=Bx.new t 118 ci;obtain⟨z,m⟩:=yq0 v (a.alloc a.size (.cells ci 118));have d:=a.size;clear v a;go_wp2_with (first
  | ((with_reducible refine aj 118 (.tmp 4) _ ?_);refine ai rfl _ _ _ rfl t.heap.size 118 ci ci (by rfl) (by rfl) z.out rfl p j.out ?_;intro H i g;have u:=y5 i;have k:=y5 (g.below m.out d);clear i g))
 go_ret2;exact⟨⟨λh=>absurd (l.out.symm.trans h) y.out,λ_=>by rw[l.out];rfl⟩,k.out⟩
structure PtS (wr:World) (H0 H3 H7 gs:Nat) (G:List Nat) (TB AW:Option Addr) (td cW:Nat) (L:List Ty) (l:List Bk):Prop where
 x:Bx wr H0 163 #[.slice none 0 0,.slice none 0 0,.slice none 0 0,.slice none 0 0,.map none]
 t:vm wr H3 (.slice TB L.length td) L
 s:Bx wr gs 118 ((slL G).flatMap Sl.cells).toArray
 b:wr.ownsRow H7 55 6 (.slice AW l.length cW) l.length (l.flatMap Bk.cells)
section
variable {wr wr':World} {H0 H3 H7 gs:Nat} {G:List Nat} {TB AW:Option Addr} {td cW:Nat} {L:List Ty} {l:List Bk}
theorem PtS.alloc(h:PtS wr H0 H3 H7 gs G TB AW td cW L l)(o:Obj):PtS (wr.alloc o) H0 H3 H7 gs G TB AW td cW L l:=
 ⟨h.x.alloc o,⟨h.t.1.alloc o,λy a=>(h.t.2 y a).alloc o⟩,h.s.alloc o,h.b.alloc o⟩
theorem PtS.set_(h:PtS wr H0 H3 H7 gs G TB AW td cW L l){p:Addr}(d:H0≠p.block)(a:p.block<H3)(h37:H3<=H7)(hg:H7<=gs)(u:Value):PtS (wr.setCell p u) H0 H3 H7 gs G TB AW td cW L l:=
 ⟨h.x.far d u,⟨ar h.t.1 (bI h.t.1 a).symm u,λy c=>ar (h.t.2 y c) (bI (h.t.2 y c) a).symm u⟩,h.s.far (by omega) u,ar h.b (bI h.b (by omega)).symm u⟩
theorem PtS.grown(h:PtS wr H0 H3 H7 gs G TB AW td cW L l){row:Option Nat}(a:wr.grownBy wr' row)(f:some H0≠row)(d:some gs≠row)(g:(Value.slice TB L.length td).ownBlock=none\/(Value.slice TB L.length td).ownBlock≠row)(i:∀y∈L,(Value.slice y.A y.l.length y.c).ownBlock=none\/(Value.slice y.A y.l.length y.c).ownBlock≠row)(j:(Value.slice AW l.length cW).ownBlock=none\/(Value.slice AW l.length cW).ownBlock≠row):PtS wr' H0 H3 H7 gs G TB AW td cW L l:=
 ⟨h.x.grown a f,⟨cd h.t.1 a g,λy e=>cd (h.t.2 y e) a (i y e)⟩,h.s.grown a d,cd h.b a j⟩
def ptBk (B H0 gs:Nat) (TB AW:Option Addr) (td cW:Nat) (L:List Ty) (l:List Bk):Prop:=∀r,B<=r->H0≠r/\gs≠r/\(Value.slice TB L.length td).ownBlock≠some r/\(∀y∈L,(Value.slice y.A y.l.length y.c).ownBlock≠some r)/\(Value.slice AW l.length cW).ownBlock≠some r
theorem PtS.bk(h:PtS wr H0 H3 H7 gs G TB AW td cW L l):ptBk wr.heap.size H0 gs TB AW td cW L l:=λr hr=>by
 refine⟨by have:=h.x.lt;omega,by have:=h.s.lt;omega,λe=>?_,λy a e=>?_,λe=>?_⟩
 .have:=(h.t.1.lt r e).2;omega
 .have:=((h.t.2 y a).lt r e).2;omega
 .have:=(h.b.lt r e).2;omega
theorem PtS.late(h:PtS wr H0 H3 H7 gs G TB AW td cW L l){B:Nat}(d:ptBk B H0 gs TB AW td cW L l){v:Value}{wa:World}(b:wa.ownsRow B e sz v n xs)(c:wr.grownBy wr' v.ownBlock):PtS wr' H0 H3 H7 gs G TB AW td cW L l:=by
 cases a:v.ownBlock with
 | none=>exact h.grown c (by rw[a];simp) (by rw[a];simp) (by rw[a];exact Classical.em _) (λy _=>by rw[a];exact Classical.em _) (by rw[a];exact Classical.em _)
 | some r =>obtain⟨g,i,j,k,m⟩:=d r (b.lt r a).1;exact h.grown c (by rw[a];simpa using g) (by rw[a];simpa using i) (.inr (by rw[a];exact j)) (λy f=>.inr (by rw[a];exact k y f)) (.inr (by rw[a];exact m))
end
theorem GP{l:List Bk}(hk:k<l.length)(b:l[k].kind=1):(aP l)[(aP (l.take k)).length]? = some l[k]:=by
 have e:l=l.take k++l[k]::l.drop (k+1):=by rw[List.getElem_cons_drop];exact (kz6 k l).symm
 have a:aP l=aP (l.take k)++l[k]::aP (l.drop (k+1)):=by
  conv=>lhs;rw[e]
  unfold aP;rw[kxa,kju (by rw[kqw];exact b)]
 rw[a,kxn (kqa _)];simp
theorem BA(A:Option Addr)(G:List Nat)(c n:Nat)(w:World)(b:G.length=n)(hs:am (n:Int)=true)(hc:n<=c)(i:RdW w w.heap.size A G)(Z:∀x∈G,x<2^64):
 Calls prog 94 #[.slice A n c] w λe a=>PtRes G A n c e a/\Below w.heap.size w a:=by
 subst b;have hb:=(ae _).1 hs;obtain⟨HR,u⟩:=yq0 i (λW (i:RdW W W.heap.size A G)=>FT A G c G.length W rfl (by omega) hc i);unfold C2 at u;have X:jJ G=if (tyN G).isSome=true then 0 else 50:=by unfold jJ;rw[if_pos hs]
 obtain⟨Kg,Kh,Kl,Kr⟩:=yq2 (λW (i:RdW W W.heap.size A G)=>(show Calls prog 157 #[.slice A G.length c,.int .i64 16] W λe a=>e=.returned (.bool (fF G 16))/\W=a from wx A G c G.length 16 W rfl (by omega) (by omega) hc i)) (λW (i:RdW W W.heap.size A G)=>(show Calls prog 157 #[.slice A G.length c,.int .i64 24] W λe a=>e=.returned (.bool (fF G 24))/\W=a from wx A G c G.length 24 W rfl (by omega) (by omega) hc i)) (λW (i:RdW W W.heap.size A G)=>ID A G c G.length W rfl (by omega) i Z) (λW (i:RdW W W.heap.size A G)=>IC A G c G.length W rfl (by omega) i Z);unfold Gp at Kl;unfold Ae at Kr;have hzv:=zeroSg;have Q:(prog.info? 163).map (·.size)=some (#[.slice none 0 0,.slice none 0 0,.slice none 0 0,.slice none 0 0,.map none]:Array Value).size:=vI;obtain⟨X0,r⟩:=yq0 (Bx.new w 163 #[.slice none 0 0,.slice none 0 0,.slice none 0 0,.slice none 0 0,.map none]) ((kqe w.heap.size w).alloc (kqa _) (.cells #[.slice none 0 0,.slice none 0 0,.slice none 0 0,.slice none 0 0,.map none] 163));cases ht:tyN G with
 | none =>
  rw[ht] at u X;rw[X] at u;have HV:=y5 (o8 (.inl ht));simp only[kkt,kj5,kzp,if_false] at u;clear X ht hs hb i Z Kg Kh Kl Kr hc;go_enter func94,ntmps94;go_wp2_with fail;refine (u.out _ (yq8 HR r)).mono ?_;rintro e w1 ⟨⟨a,b0,b1,rfl⟩,f⟩;have o:=yq7 r f;have q:=y5 (X0.out.up f X0.out.lt);have I:=o.out.size;obtain⟨b,B⟩:=yq0 ((o.out.alloc I (.cells #[.int .i64 a,.int .i64 0] 126)).alloc (by simp;omega) (.cells #[.bool b0,.bool b1] 127)) ((q.out.alloc (.cells #[.int .i64 a,.int .i64 0] 126)).alloc (.cells #[.bool b0,.bool b1] 127));clear f;go_wp2_with (first
   | ((with_reducible refine aj 163 (.tmp 2) _ ?_);refine ai rfl _ _ _ rfl w.heap.size 163 #[.slice none 0 0,.slice none 0 0,.slice none 0 0,.slice none 0 0,.map none] #[.slice none 0 0,.slice none 0 0,.slice none 0 0,.slice none 0 0,.map none] (by rfl) (by rfl) B.out rfl Q (by simp[Value.oneCell']) ?_;intro w9 d g;have m:=y5 d;have j:=y5 g;clear d g))
  exact kqq (v:=.tuple #[.agg #[.slice none 0 0,.slice none 0 0,.slice none 0 0,.slice none 0 0,.map none],.int .i64 1]) (fL results94 _ m.out rfl rfl rfl) rfl ⟨⟨1,_,rfl,by omega,λ_=>⟨HV.out,rfl⟩,λh=>by omega⟩,j.out.below b.out (kqa _)⟩
 | some t =>
  have Mb:=vM ht;rw[ht] at u X;rw[X] at u;simp only[kq9,kxv,if_true] at u;have Kt:=y5 (λW (i:RdW W W.heap.size A G)=>ET A G c G.length t W rfl hs Mb i Z);unfold JF at Kt;obtain⟨Ll,Ko⟩:=yq0 (λl C=>qC (G:=G) (t:=t) (l:=l) ht C) (λh=>o8 (G:=G) (.inr h));have Eq:Hid ((fF G 16=false\/fF G 24=false\/iG G t=false\/slsOk G=false\/xH G=false)->lay G=false):=y5 λh=>by
   cases k:lay G with
   | false=>rfl
   | true =>
    cases C:blocks G 128 with
    | none=>rw[Ko.out C] at k;cases k
    | some l =>obtain⟨z,D,E,y,F,-⟩:=(Ll.out l C).1 k;rw[z,D,E,y,iT C,F] at h;simp at h
  have Lw:Hid (∀l,blocks G 128=some l->∀k (hk:k<l.length),∃ka:Nat,l[k].at_=(ka:Int)/\ka<=2048):=y5 λl C k hk=>by
   obtain⟨a,e,z,D,E,y,-⟩:=bN _ _ C (by omega) k hk;exact⟨a,by rw[e];rfl,by have:=(aC y).2.2;omega⟩
  obtain⟨Lj,Kq,HT⟩:=yq1 (λl (C:blocks G 128=some l)=>(bv (by omega) _ _ C (by omega) (by omega) (by omega)).1) hs ht;have Ku:Hid (∀mb W,(Instr.build 163 #[(0,.slice A G.length c),(4,.map (some mb))]).run prog W=.ok (.agg #[.slice A G.length c,.slice none 0 0,.slice none 0 0,.slice none 0 0,.map (some mb)]) W):=y5 λ_ _=>by kernel_rfl
  have hb2048:G.length<=2048:=(by omega);clear X hs hb i Z ht hc;go_enter func94,ntmps94;go_wp2_with fail;refine (u.out _ (yq8 HR r)).mono ?_;rintro e w1 ⟨⟨a,b0,b1,rfl⟩,f⟩;have o:=yq7 r f;have q:=y5 (X0.out.up f X0.out.lt);have I:=o.out.size;obtain⟨b,B,P⟩:=yq1 ((o.out.alloc I (.cells #[.int .i64 a,.int .i64 (t:Int)] 126)).alloc (by simp;omega) (.cells #[.bool b0,.bool b1] 127)) ((q.out.alloc (.cells #[.int .i64 a,.int .i64 (t:Int)] 126)).alloc (.cells #[.bool b0,.bool b1] 127)) ((Bx.new w1 126 #[.int .i64 a,.int .i64 (t:Int)]).alloc (.cells #[.bool b0,.bool b1] 127));clear f;go_wp2_with fail;obtain⟨f,i⟩:∃f,(w1.alloc (.cells #[.int .i64 a,.int .i64 (t:Int)] 126)).alloc (.cells #[.bool b0,.bool b1] 127)=f:=⟨_,rfl⟩;rw[i] at b B P |-;clear i X0 q r o;have K:=b.out.size;refine (Kg.out _ (HR.out.up b.out K)).mono ?_;rintro e w2 ⟨rfl,rfl⟩;cases i:fF G 16
  .have HV:=y5 (Eq.out (.inl i));go_wp2_with (first
    | ((with_reducible refine aj 163 (.tmp 2) _ ?_);refine ai rfl _ _ _ rfl w.heap.size 163 #[.slice none 0 0,.slice none 0 0,.slice none 0 0,.slice none 0 0,.map none] #[.slice none 0 0,.slice none 0 0,.slice none 0 0,.slice none 0 0,.map none] (by rfl) (by rfl) B.out rfl Q (by simp[Value.oneCell']) ?_;intro w9 d g;have m:=y5 d;have j:=y5 g;clear d g))
   exact kqq (v:=.tuple #[.agg #[.slice none 0 0,.slice none 0 0,.slice none 0 0,.slice none 0 0,.map none],.int .i64 2]) (fL results94 _ m.out rfl rfl rfl) rfl ⟨⟨2,_,rfl,by omega,λ_=>⟨HV.out,rfl⟩,λh=>by omega⟩,j.out.below b.out (kqa _)⟩
  have Lf:=y5 i;clear i;go_wp2_with fail;refine (Kh.out _ (HR.out.up b.out K)).mono ?_;rintro e w2 ⟨rfl,rfl⟩;cases i:fF G 24
  .have HV:=y5 (Eq.out (.inr (.inl i)));go_wp2_with (first
    | ((with_reducible refine aj 163 (.tmp 2) _ ?_);refine ai rfl _ _ _ rfl w.heap.size 163 #[.slice none 0 0,.slice none 0 0,.slice none 0 0,.slice none 0 0,.map none] #[.slice none 0 0,.slice none 0 0,.slice none 0 0,.slice none 0 0,.map none] (by rfl) (by rfl) B.out rfl Q (by simp[Value.oneCell']) ?_;intro w9 d g;have m:=y5 d;have j:=y5 g;clear d g))
   exact kqq (v:=.tuple #[.agg #[.slice none 0 0,.slice none 0 0,.slice none 0 0,.slice none 0 0,.map none],.int .i64 3]) (fL results94 _ m.out rfl rfl rfl) rfl ⟨⟨3,_,rfl,by omega,λ_=>⟨HV.out,rfl⟩,λh=>by omega⟩,j.out.below b.out (kqa _)⟩
  have Lg:=y5 i;clear i;have R:=Ku.out;have S:=@run_makeMap prog;obtain⟨-,U,-,-,T⟩:=P.out.c2;go_wp2_with fail;have g3:=Bx.new (f.alloc (Obj.map #[] 0)) 163 #[.slice A G.length c,.slice none 0 0,.slice none 0 0,.slice none 0 0,.map (some f.heap.size)];rw[kqm] at g3;have O:=(World.ownsMap_made (H:=Unit) f prog 3 (plainElem prog 4)).alloc (.cells #[.slice A G.length c,.slice none 0 0,.slice none 0 0,.slice none 0 0,.map (some f.heap.size)] 163);have M:=(B.out.alloc (Obj.map #[] 0)).alloc (.cells #[.slice A G.length c,.slice none 0 0,.slice none 0 0,.slice none 0 0,.map (some f.heap.size)] 163);have y:=(b.out.alloc K (Obj.map #[] 0)).alloc (by simp;omega) (.cells #[.slice A G.length c,.slice none 0 0,.slice none 0 0,.slice none 0 0,.map (some f.heap.size)] 163);have D:((f.alloc (Obj.map #[] 0)).alloc (.cells #[.slice A G.length c,.slice none 0 0,.slice none 0 0,.slice none 0 0,.map (some f.heap.size)] 163)).heap.size=f.heap.size+1+1:=(by simp);obtain⟨Y,F⟩:=xq ((f.alloc (Obj.map #[] 0)).alloc (.cells #[.slice A G.length c,.slice none 0 0,.slice none 0 0,.slice none 0 0,.map (some f.heap.size)] 163));rw[F] at g3 O M y D |-;have Kv:=y5 D;have Lx:w.heap.size<=Y.heap.size:=y.size;refine (Kt.out _ (HR.out.up y y.size)).mono ?_;rintro e w4 ⟨⟨z,tm,E,L,rfl,N⟩,i⟩;have g4:=g3.up i g3.lt;obtain⟨M4,X4,J⟩:=yq1 (eK O (i.block _ O.lt)) (M.up i M.lt) (y.trans (i.mono Lx));have hz4:=i.size;have Le:=M.lt;have hg4:=g4.lt;obtain⟨q0,q1,q2,q3,q4,V,-⟩:=g4.c5;have f1:=V 1;have G4:=y5 g4;have q:w.heap.size≠f.heap.size+1:=by have:=B.out.lt;omega
  have hne7':=q.symm;clear F g3 O M y D i V g4 B b P U T R S;cases b:iG G t
  .rw[b] at N;simp only[kzp,if_false];obtain⟨HV,O,i⟩:=yq1 (Eq.out (.inr (.inr (.inl b)))) (X4.out.far (p:=⟨f.heap.size+1,1,none⟩) q (.slice z tm E)) (J.out.setCell (p:=⟨f.heap.size+1,1,none⟩) (by dsimp only;omega) (.slice z tm E));clear N b;go_wp2_with (first
    | ((with_reducible refine aj 163 (.tmp 2) _ ?_);refine ai rfl _ _ _ rfl w.heap.size 163 #[.slice none 0 0,.slice none 0 0,.slice none 0 0,.slice none 0 0,.map none] #[.slice none 0 0,.slice none 0 0,.slice none 0 0,.slice none 0 0,.map none] (by rfl) (by rfl) O.out rfl Q (by simp[Value.oneCell']) ?_;intro w9 d g;have m:=y5 d;have j:=y5 g;clear d g))
   exact kqq (v:=.tuple #[.agg #[.slice none 0 0,.slice none 0 0,.slice none 0 0,.slice none 0 0,.map none],.int .i64 4]) (fL results94 _ m.out rfl rfl rfl) rfl ⟨⟨4,_,rfl,by omega,λ_=>⟨HV.out,rfl⟩,λh=>by omega⟩,j.out.below i.out (kqa _)⟩
  obtain⟨rfl,i,M⟩:=N b;simp only[if_true];obtain⟨Lu,Lq⟩:=yq0 b M;have B:f.heap.size+1<Y.heap.size:=by have:=Kv.out;omega
  obtain⟨F,O,P,V⟩:=yq2 (show vm (w4.setCell ⟨f.heap.size+1,1,none⟩ (.slice z L.length E)) Y.heap.size (.slice z L.length E) L from ⟨ar i.1 (bI i.1 B).symm _,λy S=>ar (i.2 y S) (bI (i.2 y S) B).symm _⟩) (X4.out.far (p:=⟨f.heap.size+1,1,none⟩) q (.slice z L.length E)) (G4.out.set_ 1 (.slice z L.length E)) (M4.out.setCell (a:=⟨f.heap.size+1,1,none⟩) (by simp) (.slice z L.length E));have D:=J.out.setCell (p:=⟨f.heap.size+1,1,none⟩) (by dsimp only;omega) (.slice z L.length E);clear N b i M;go_wp2_with fail;obtain⟨W5,N⟩:∃W5,w4.setCell ⟨f.heap.size+1,1,none⟩ (.slice z L.length E)=W5:=⟨_,rfl⟩;have Ka:W5.heap.size=w4.heap.size:=by rw[<-N];simp
  rw[N] at F O P V D |-;refine (Kl.out _ (HR.out.up D D.size)).mono ?_;rintro e w6 ⟨hh,i⟩;have R:=D.trans (i.mono D.size);have g6:=P.out.up i P.out.lt;obtain⟨X6,M6,M⟩:=yq1 (O.out.up i O.out.lt) (eK V.out (i.block _ V.out.lt)) (show vm w6 Y.heap.size (.slice z L.length E) L from ⟨ag F.out.1 i (kqa _),λy S=>ag (F.out.2 y S) i (kqa _)⟩);have hz6:=i.size;have hx6:=X6.out.lt;obtain⟨W,q1',q2',q3',q4',U,hg6⟩:=g6.c5;have f2:=U 2;obtain⟨G6,T⟩:=yq0 g6 R;have hgz:f.heap.size+1<W5.heap.size:=P.out.lt;have h35:Y.heap.size<=W5.heap.size:=(by omega);have b:eg G=if slsOk G=true then 0 else 50:=by unfold eg;rw[if_pos Kq.out]
  clear N Ka D i R g6 U q0 q1 q2 q3 q4 f1 X4 G4 M4 J O P V F;cases i:slsOk G
  .rw[i] at b;simp only[kzp,if_false] at b;obtain rfl:=hh.2 (by rw[b];decide);have HV:=y5 (Eq.out (.inr (.inr (.inr (.inl i)))));rw[b];obtain⟨U,Ki⟩:=yq0 (X6.out.far (p:=⟨f.heap.size+1,2,none⟩) q (.slice none 0 0)) (T.out.setCell (p:=⟨f.heap.size+1,2,none⟩) (by dsimp only;omega) (.slice none 0 0));clear i b hh;go_wp2_with (first
    | ((with_reducible refine aj 163 (.tmp 2) _ ?_);refine ai rfl _ _ _ rfl w.heap.size 163 #[.slice none 0 0,.slice none 0 0,.slice none 0 0,.slice none 0 0,.map none] #[.slice none 0 0,.slice none 0 0,.slice none 0 0,.slice none 0 0,.map none] (by rfl) (by rfl) U.out rfl Q (by simp[Value.oneCell']) ?_;intro w9 d g;have m:=y5 d;have j:=y5 g;clear d g))
   exact kqq (v:=.tuple #[.agg #[.slice none 0 0,.slice none 0 0,.slice none 0 0,.slice none 0 0,.map none],.int .i64 5]) (fL results94 _ m.out rfl rfl rfl) rfl ⟨⟨5,_,rfl,by omega,λ_=>⟨HV.out,rfl⟩,λh=>by omega⟩,j.out.below Ki.out (kqa _)⟩
  rw[i] at b;simp only[if_true] at b;obtain⟨J,rfl,Lz,D⟩:=hh.1 b;rw[b];have Lt:=y5 i;have Kx:J≠f.heap.size+1:=(by omega);obtain⟨V,U,G7,M7,N⟩:=yq3 (D.far (p:=⟨f.heap.size+1,2,none⟩) Kx (.slice (some ⟨J,0,none⟩) 16 16)) (X6.out.far (p:=⟨f.heap.size+1,2,none⟩) q (.slice (some ⟨J,0,none⟩) 16 16)) (G6.out.set_ 2 (.slice (some ⟨J,0,none⟩) 16 16)) (M6.out.setCell (a:=⟨f.heap.size+1,2,none⟩) (by simp) (.slice (some ⟨J,0,none⟩) 16 16)) (show vm (w6.setCell ⟨f.heap.size+1,2,none⟩ (.slice (some ⟨J,0,none⟩) 16 16)) Y.heap.size (.slice z L.length E) L from ⟨ar M.out.1 (bI M.out.1 B).symm _,λy S=>ar (M.out.2 y S) (bI (M.out.2 y S) B).symm _⟩);have F:=T.out.setCell (p:=⟨f.heap.size+1,2,none⟩) (by dsimp only;omega) (.slice (some ⟨J,0,none⟩) 16 16);clear i b hh D;go_wp2_with fail;obtain⟨W7,O⟩:∃W7,w6.setCell ⟨f.heap.size+1,2,none⟩ (.slice (some ⟨J,0,none⟩) 16 16)=W7:=⟨_,rfl⟩;have Ke:W7.heap.size=w6.heap.size:=by rw[<-O];simp
  rw[O] at N U G7 M7 V F |-;refine (Kr.out _ (HR.out.up F F.size)).mono ?_;rintro e w8 ⟨⟨AW,cW,rfl,i⟩,b⟩;obtain⟨Kj,X8⟩:=yq0 (F.trans (b.mono F.size)) (U.out.up b U.out.lt);have hgl:J<W7.heap.size:=V.out.lt;have Ly:W5.heap.size<=W7.heap.size:=by omega
  cases D:xH G
  .have HV:=y5 (Eq.out (.inr (.inr (.inr (.inr D)))));have R:lz G=50:=by unfold lz;rw[if_pos Kq.out,D];rfl
   have Z:mx G=[]:=by unfold mx;rw[if_neg (by rw[R];decide)]
   rw[R,Z];clear D R Z i F b O Ke W q1' q2' q3' q4' f2;go_wp2_with (first
    | ((with_reducible refine aj 163 (.tmp 2) _ ?_);refine ai rfl _ _ _ rfl w.heap.size 163 #[.slice none 0 0,.slice none 0 0,.slice none 0 0,.slice none 0 0,.map none] #[.slice none 0 0,.slice none 0 0,.slice none 0 0,.slice none 0 0,.map none] (by rfl) (by rfl) X8.out rfl Q (by simp[Value.oneCell']) ?_;intro w9 d g;have m:=y5 d;have j:=y5 g;clear d g))
   exact kqq (v:=.tuple #[.agg #[.slice none 0 0,.slice none 0 0,.slice none 0 0,.slice none 0 0,.map none],.int .i64 6]) (fL results94 _ m.out rfl rfl rfl) rfl ⟨⟨6,_,rfl,by omega,λ_=>⟨HV.out,rfl⟩,λh=>by omega⟩,j.out.below Kj.out (kqa _)⟩
  have R:lz G=0:=by unfold lz;rw[if_pos Kq.out,D];rfl
  obtain⟨l,C⟩:∃l,blocks G 128=some l:=by
   cases C:blocks G 128 with
   | none=>rw[nz C] at D;cases D
   | some l=>exact⟨l,rfl⟩
  have Z:mx G=l:=by unfold mx;rw[if_pos R,C];rfl
  have P:kE l=true:=by rw[<-iT C];exact D
  rw[Z] at i;rw[R,Z];have hl24:l.length<=1024:=by have:=Lj.out l C;omega
  obtain⟨HL,Lh,P8⟩:=yq1 C P (show PtS w8 w.heap.size Y.heap.size W5.heap.size J G z AW E cW L l from ⟨X8.out,⟨ag N.out.1 b (kqa _),λy S=>ag (N.out.2 y S) b (kqa _)⟩,V.out.up b V.out.lt,ab i Ly⟩);obtain⟨Li,G8,M8⟩:=yq1 P8.out.bk (G7.out.up b G7.out.lt) (eK M7.out (b.block _ M7.out.lt));have Kw:=G8.out.lt;have Kz:=M8.out.lt;have Mc:=Kj.out.size;have Lv:=y5 (Lw.out l HL.out);clear D R Z C P i F b O Ke W q1' q2' q3' q4' f2 M N X6 U X8 G6 G7 M6 M7 V T;obtain⟨i2,i,b,I,K⟩:=kzh kQ;obtain⟨HJ,Lm,Ln,Lo⟩:=yq2 i b I K;clear i b I K;go_wp2_with fail;go_loopw [61] (λi wr=>∃(k:Nat) (OB:Option Addr) (oc:Nat),k<=l.length/\i=.int .i64 k/\Hid (Bx wr (f.heap.size+1) 163 #[.slice A G.length c,.slice z L.length E,.slice (some ⟨J,0,none⟩) 16 16,.slice OB (aP (l.take k)).length oc,.map (some f.heap.size)])/\Hid (wr.ownsRow w8.heap.size 55 6 (.slice OB (aP (l.take k)).length oc) (aP (l.take k)).length ((aP (l.take k)).flatMap Bk.cells))/\Hid (wr.ownsMap prog 3 (plainElem prog 4) f.heap.size (aP (l.take k)).length (fI ((aP l).map Bk.at_) (aP (l.take k)).length))/\Hid (PtS wr w.heap.size Y.heap.size W5.heap.size J G z AW E cW L l)/\w8.heap.size<=wr.heap.size/\Hid (Below w.heap.size w wr)) (λi _=>l.length-(intOf i).toNat)
  case atStart=>exact⟨0,none,0,kqv _,rfl,G8,y5 (kq3 _ _ _ _),M8,P8,kqa _,Kj⟩
  obtain⟨k,OB,oc,hk,rfl,Gq,ON,M,P,La,HB⟩:=hrel;have hz:=HB.out.size;by_cases Kd:k<l.length
  .obtain ⟨b,off,rfl,hbb,p0,p1,p2,p3,p4,p5⟩:=RdB.at_ (show RdB wr wr.heap.size AW l from Rd.of_own P.out.b) Kd;obtain⟨K,U⟩:=yq0 (rS Kd) (GP Kd);have Ky:(aP (l.take k)).length<=k:=by unfold aP;have:=kxz (λb:Bk=>b.kind==1) (l.take k);rw[kq6] at this;omega
   obtain⟨x,O⟩:=xq (l[k]);rw[O] at p0 p1 p2 p3 p4 p5 K U;obtain⟨i,F,xk,I,C,D⟩:=x;dsimp only at p0 p1 p2 p3 p4 p5 K U;obtain⟨V,N⟩:=xq (aP (l.take k));rw[N] at Gq ON M K U Ky;have hki:(k:Int)<(l.length:Int):=(by omega);have hk0:(0:Int)<=(k:Int):=(by omega);obtain⟨ka,Kc,hka2⟩:=Lv.out k Kd;rw[O] at Kc;dsimp only at Kc;clear O N;by_cases W:xk=1
   .have N:Hid (aP (l.take (k+1))=V++[⟨i,F,xk,I,C,D⟩]):=y5 (by rw[K.out,if_pos W]);have HX:=y5 (U.out W);have Lp:Hid (fI ((aP l).map Bk.at_) (V.length+1)=(fI ((aP l).map Bk.at_) V.length).put (.int .i64 i) (.lit (.bool true))):=y5 (by simp only[fI,kxk,HX.out];rfl);have R:(Lit.int .i64 i).wf=true:=by simp[Lit.wf,IntKind.min,IntKind.max,IntKind.signed,IntKind.bits];omega
    have HK:=y5 (keyOf_int_mk (P:=prog) underlying3 R);subst W;obtain⟨g0,g1,g2,g3,g4,gf,-⟩:=Gq.out.c5;have gf3:=gf 3;have hgw:=Gq.out.lt;obtain⟨Ka,Kk,Km,Kp,o,BX1⟩:=yq4 (ON.out.alloc (.cells #[.int .i64 i,.int .i64 F,.int .i64 1,.int .i64 I,.bool C,.int .u64 (D:Int)] 55)) (Gq.out.alloc (.cells #[.int .i64 i,.int .i64 F,.int .i64 1,.int .i64 I,.bool C,.int .u64 (D:Int)] 55)) (M.out.alloc (.cells #[.int .i64 i,.int .i64 F,.int .i64 1,.int .i64 I,.bool C,.int .u64 (D:Int)] 55)) (P.out.alloc (.cells #[.int .i64 i,.int .i64 F,.int .i64 1,.int .i64 I,.bool C,.int .u64 (D:Int)] 55)) (HB.out.alloc hz (.cells #[.int .i64 i,.int .i64 F,.int .i64 1,.int .i64 I,.bool C,.int .u64 (D:Int)] 55)) (Bx.new wr 55 #[.int .i64 i,.int .i64 F,.int .i64 1,.int .i64 I,.bool C,.int .u64 (D:Int)]);have O:w8.heap.size<=(wr.alloc (.cells #[.int .i64 i,.int .i64 F,.int .i64 1,.int .i64 I,.bool C,.int .u64 (D:Int)] 55)).heap.size:=cr La;obtain⟨Kf,Ko⟩:=yq0 O (show some wr.heap.size≠(Value.slice OB V.length oc).ownBlock from λh=>by have:=(ON.out.lt _ h.symm).2;omega);have hmw:=M.out.lt;have Kb:=bc (wr.alloc (.cells #[.int .i64 i,.int .i64 F,.int .i64 1,.int .i64 I,.bool C,.int .u64 (D:Int)] 55)) [.int .i64 i,.int .i64 F,.int .i64 1,.int .i64 I,.bool C,.int .u64 (D:Int)] 55;rw[kqm] at Kb;have Kb:=y5 Kb;clear K U R gf Kc O;go_wp2_with (first
     | (at_builtin;refine kq7 _ rfl _ _ 48 rfl w8.heap.size 55 i2 _ 6 48 underlying48 HJ.out Lm.out Ln.out Lo.out rfl (by decide) _ _ _ rfl (Ka.out.alloc _) ⟨_,0,none⟩ 1 1 [.int .i64 i,.int .i64 F,.int .i64 1,.int .i64 I,.bool C,.int .u64 (D:Int)] rfl rfl Kb.out (by simp[Value.oneCell']) (by unfold maxLen;omega) (by omega) (cr Kf.out) ?_;intro v1 w6 R O _;obtain⟨OV,oc2,rfl⟩:=aw R;have T:=y5 (ay o.out o.out.size (ab Ka.out Mc) O);have Kn:=y5 R;have Ks:=y5 ((Kk.out.alloc _).grown O (bI ON.out Kw));have Lb:=y5 ((Km.out.alloc _).kept O (bI ON.out Kz));have Ls:=y5 ((Kp.out.alloc _).late Li.out Ka.out O);have BX6:=y5 ((BX1.out.alloc _).grown O Ko.out);have Ma:=kzu (cr Kf.out) O.size;obtain⟨d0,d1,d2,d3,d4,df,-⟩:=Ks.out.c5;obtain⟨x0,-,-,-,-,-,-,xlt⟩:=BX6.out.c6;have df3:=df 3;clear R O df)
     | (at_mapUpdate;refine wpList_mapUpdate_own _ rfl _ _ _ 161 rfl 3 4 nh underlying161 _ f.heap.size _ _ rfl (Lb.out.setCell (a:=⟨f.heap.size+1,3,none⟩) (by simp) _) (by unfold maxLen;omega) _ _ _ rfl rfl HK.out (.lit (.bool true)) [] (plainElem_bool underlying4 true) ?_;intro w7 R O))
    obtain⟨Ki,Lk⟩:=yq0 ((T.out.setCell (p:=⟨f.heap.size+1,3,none⟩) (by dsimp only;omega) (.slice OV (V.length+1) oc2)).grown O (by rw[kxc];exact T.out.size) (λk hk=>by injection hk with hk;omega)) ((Ks.out.set_ 3 (.slice OV (V.length+1) oc2)).grown O (by simp));have n7:=(bI Kn.out Kw).symm;have Lr:=y5 (cd (ar Kn.out n7 (.slice OV (V.length+1) oc2)) O (.inr (bI Kn.out Kz).symm));have Lc:=gU P.out.x M.out;have Ld:=gU P.out.s M.out;have Lb:f.heap.size<Y.heap.size:=by have:=Kv.out;omega
    have Kn:=y5 ((Ls.out.set_ (p:=⟨f.heap.size+1,3,none⟩) q B (by omega) Lz (.slice OV (V.length+1) oc2)).grown O Lc Ld (.inr (bI P.out.t.1 Lb).symm) (λy S=>.inr (bI (P.out.t.2 y S) Lb).symm) (.inr (bI P.out.b (show f.heap.size<W5.heap.size by omega)).symm));have Ke:w8.heap.size<=w7.heap.size:=kzu Ma (by have:=O.size;rw[kxc] at this;exact this);clear O Lc Ld n7;go_wp2;go_roundw
    case rel =>
     refine⟨k+1,OV,oc2,by omega,by go_num,?_,?_,?_,Kn,Ke,Ki⟩
     .rw[N.out,kqu];exact Lk
     .rw[N.out,kqu,kzv];exact Lr
     rw[N.out,kqu];refine y5 ?_;show w7.ownsMap _ _ _ _ (V.length+1) (fI _ (V.length+1));rw[Lp.out];exact R
    case measure=>simp[intOf];omega
   have N:Hid (aP (l.take (k+1))=V):=y5 (by rw[K.out,if_neg W,kzf]);have e1:(xk==1)=false:=by rw[kqc];exact W
   obtain⟨Ka,Kk,Km,Kp,o,O⟩:=yq4 (ON.out.alloc (.cells #[.int .i64 i,.int .i64 F,.int .i64 xk,.int .i64 I,.bool C,.int .u64 (D:Int)] 55)) (Gq.out.alloc (.cells #[.int .i64 i,.int .i64 F,.int .i64 xk,.int .i64 I,.bool C,.int .u64 (D:Int)] 55)) (M.out.alloc (.cells #[.int .i64 i,.int .i64 F,.int .i64 xk,.int .i64 I,.bool C,.int .u64 (D:Int)] 55)) (P.out.alloc (.cells #[.int .i64 i,.int .i64 F,.int .i64 xk,.int .i64 I,.bool C,.int .u64 (D:Int)] 55)) (HB.out.alloc hz (.cells #[.int .i64 i,.int .i64 F,.int .i64 xk,.int .i64 I,.bool C,.int .u64 (D:Int)] 55)) (show w8.heap.size<=(wr.alloc (.cells #[.int .i64 i,.int .i64 F,.int .i64 xk,.int .i64 I,.bool C,.int .u64 (D:Int)] 55)).heap.size from cr La);subst Kc;clear K U W;go_wp2;go_roundw;exact⟨k+1,OB,oc,by omega,by go_num,by rw[N.out];exact Kk,by rw[N.out];exact Ka,by rw[N.out];exact Km,Kp,O.out,o⟩;simp[intOf];omega
  obtain rfl:k=l.length:=(by omega);rw[kzb] at Gq ON M;have i:=y5 Gq.out;obtain⟨g0,g1,g2,g3,g4,-,-⟩:=Gq.out.c5;go_wp2_with (first
   | ((with_reducible refine av 163 (.tmp 7) ?_);refine kz7 rfl _ _ rfl (f.heap.size+1) (by rfl) 163 _ (0,0) _ i.out underlying163 (by rfl) vI ?_)
   | ((with_reducible refine aj 163 (.tmp 2) _ ?_);refine ai rfl _ _ _ rfl w.heap.size 163 #[.slice none 0 0,.slice none 0 0,.slice none 0 0,.slice none 0 0,.map none] #[.slice A G.length c,.slice z L.length E,.slice (some ⟨J,0,none⟩) 16 16,.slice OB (aP l).length oc,.map (some f.heap.size)] (by rfl) (by rfl) P.out.x rfl Q (by simp[Value.oneCell']) ?_;intro w9 d g;have m:=y5 d;have j:=y5 g;clear d g))
  refine kqq (v:=.tuple #[.agg #[.slice A G.length c,.slice z L.length E,.slice (some ⟨J,0,none⟩) 16 16,.slice OB (aP l).length oc,.map (some f.heap.size)],.int .i64 0]) (fL results94 _ m.out rfl rfl rfl) rfl ⟨⟨0,_,rfl,kvo _,λh=>absurd rfl h,λ_=>⟨t,l,?_⟩⟩,j.out.below HB.out (kqa _)⟩;have d:=j.out.2.2 w.heap.size (kqa _);have b:wr.grownBy w9 (some w.heap.size):=⟨d.os,d.tape,d.output,by rw[j.out.1];exact kqa _,λk hk g=>j.out.2.1 k (λe=>g (by rw[e]))⟩;have g:=j.out.bx P.out.s (show J≠w.heap.size by omega);refine⟨HT.out,HL.out,Lf.out,Lg.out,Lu.out,Lt.out,Lh.out,z,some ⟨J,0,none⟩,OB,E,16,oc,f.heap.size,L,rfl,?_,Lq.out,Rd.of_box g g.lt,?_,?_⟩
  .exact RdL.of_own (H:=Y.heap.size) ⟨cd P.out.t.1 b (.inr (bI P.out.t.1 Le).symm),λy S=>cd (P.out.t.2 y S) b (.inr (bI (P.out.t.2 y S) Le).symm)⟩ rfl
  .exact Rd.of_own (cd ON.out b (.inr (bI ON.out (show w.heap.size<w8.heap.size by omega)).symm))
  exact M.out.kept b (gU P.out.x M.out).symm
theorem CQ{L:List Ty}(b:iG G t=true)(k:L.map Ty.l=iu G t 8):∀x∈L,dj x.l=0/\kSz x.l=bp x.l.length/\x.l.length<=8:=by
 intro x n;have g:x.l∈iu G t 8:=by rw[<-k];exact kkx n
 unfold iu at g;obtain⟨i,m,e⟩:=kz9.1 g;rw[kzn] at m;have a:=(jz G t).1 b i (by omega);unfold Dr at a;rw[if_pos (by omega)] at a;have c:x.l=cG (wd G (96+2*i)):=by rw[<-e];unfold bB;rw[if_pos a]
 obtain⟨h,j,-,-⟩:=fW a;have f:x.l.length<=8:=by rw[c,dp];exact h
 have d:dj x.l=0:=jT f (by rw[c];exact j);exact⟨d,by unfold kSz;rw[if_pos d],f⟩
section
variable {A TA SA OA:Option Addr} {G:List Nat} {L:List Ty} {l:List Bk} {c n tc tn sc sn oc mb:Nat} {w:World}
theorem Ec(j:blocks G 128=some l)(m:(aP l).length<=1000000)(i:RdB w w.heap.size OA (aP l)):
 Calls prog 100 #[.agg #[.slice A n c,.slice TA tn tc,.slice SA sn sc,.slice OA (aP l).length oc,.map (some mb)],.func (.func 95) #[.agg #[.slice A n c,.slice TA tn tc,.slice SA sn sc,.slice OA (aP l).length oc,.map (some mb)]] #[]] w λe a=>e=.returned (.bool ((aP l).all λb=>!wrK G T (aP l) 7 b))/\Below w.heap.size w a:=by
 refine jF 95 A TA SA OA (aP l) _ c n tc tn sc sn oc (aP l).length mb w rfl m i (λ_ _=>by kernel_rfl) (λk h W hb=>?_);obtain⟨a,z,f,d,b,e,-⟩:=ir j (kqp h);rw[e,mh];have g:wrB G T (aP l) a z f b d 7=(b||decide (0<d)):=by simp[wrB]
 rw[g];exact Fk A TA SA OA c n tc tn sc sn oc (aP l).length mb a z f d 1 b W
theorem B8(o:blocks G 128=some l)(p:(aP l).length<=1000000)(q:L.length=tn)(m:∀x∈L,dj x.l=0/\kSz x.l=bp x.l.length/\x.l.length<=8)(j:RdB w w.heap.size OA (aP l))(i:RdL w w.heap.size TA L):
 Calls prog 100 #[.agg #[.slice A n c,.slice TA tn tc,.slice SA sn sc,.slice OA (aP l).length oc,.map (some mb)],.func (.func 96) #[.agg #[.slice A n c,.slice TA tn tc,.slice SA sn sc,.slice OA (aP l).length oc,.map (some mb)]] #[]] w λe a=>e=.returned (.bool ((aP l).all λb=>!wrK G (L.map Ty.l) (aP l) 8 b))/\Below w.heap.size w a:=by
 refine jF 96 A TA SA OA (aP l) _ c n tc tn sc sn oc (aP l).length mb w rfl p j (λ_ _=>by kernel_rfl) (λk h W d=>?_);obtain⟨a,z,b,g,f,e,-⟩:=ir o (kqp h);rw[e,mh];have h:(!wrB G (L.map Ty.l) (aP l) a z b f g 8)=(decide (b<L.length)&&bp (((L.map Ty.l)[b]?).getD []).length==z):=by unfold wrB;rw[if_neg (by decide),if_pos rfl,kzw];cases decide (b<L.length)<;>simp[bne]
 rw[h];exact Ct A TA SA OA L c n tc tn sc sn oc (aP l).length mb a z b g 1 f W q m (i.up d d.size)
theorem qb{a z ty nx:Nat}{mk:Bool}(b:L.map Ty.l=T)(h:wrK G T O 8 ⟨(a:Int),(z:Int),1,(ty:Int),mk,nx⟩=false):∃h:ty<L.length,z=bp L[ty].l.length/\(T[ty]?).getD []=L[ty].l:=by
 rw[mh] at h;unfold wrB at h;rw[if_neg (by decide),if_pos rfl,kzo,kk3,kqh,kqt,<-b,kzw] at h;have e:(T[ty]?).getD []=(L[ty]'h.1).l:=by rw[<-b];simp[h.1]
 refine⟨h.1,?_,e⟩;rw[<-e,<-b];exact h.2.symm
theorem yi(t:blocks G 128=some l)(u:(aP l).length<=1000000)(v:G.length=n)(i:n<=2048)(y:L.length=tn)(s:∀x∈L,dj x.l=0/\kSz x.l=bp x.l.length/\x.l.length<=8)(m:∀b∈aP l,wrK G (L.map Ty.l) (aP l) 8 b=false)(p:RdB w w.heap.size OA (aP l))(o:RdL w w.heap.size TA L)(q:RdW w w.heap.size A G):
 Calls prog 100 #[.agg #[.slice A n c,.slice TA tn tc,.slice SA sn sc,.slice OA (aP l).length oc,.map (some mb)],.func (.func 97) #[.agg #[.slice A n c,.slice TA tn tc,.slice SA sn sc,.slice OA (aP l).length oc,.map (some mb)]] #[]] w λe a=>e=.returned (.bool ((aP l).all λb=>!wrK G (L.map Ty.l) (aP l) 9 b))/\Below w.heap.size w a:=by
 refine jF 97 A TA SA OA (aP l) _ c n tc tn sc sn oc (aP l).length mb w rfl u p (λ_ _=>by kernel_rfl) (λk h W f=>?_);obtain⟨a,z,g,k,j,e,-,haz,-⟩:=ir t (kqp h);have b:=m _ (kqp h);rw[e] at b |-;obtain⟨d,B,r⟩:=qb rfl b;rw[mh];have h:wrB G (L.map Ty.l) (aP l) a z g j k 9=(decide (L[g].l.length+2<z)&&wd G (a+2+L[g].l.length) != 0):=by unfold wrB;rw[if_neg (by decide),if_neg (by decide),if_pos rfl,r]
 rw[h];exact xr A TA SA OA G L c n tc tn sc sn oc (aP l).length mb a z g k 1 j W v i y d (s _ (kqp d)).2.2 B (by omega) (q.up f f.size) (o.up f f.size)
theorem ye(u:blocks G 128=some l)(v:(aP l).length<=1000000)(y:G.length=n)(j:n<=2048)(C:L.length=tn)(B:∀x∈G,x<2^64)(t:∀x∈L,dj x.l=0/\kSz x.l=bp x.l.length/\x.l.length<=8)(o:∀b∈aP l,wrK G (L.map Ty.l) (aP l) 8 b=false)(q:RdB w w.heap.size OA (aP l))(p:RdL w w.heap.size TA L)(r:RdW w w.heap.size A G):
 Calls prog 100 #[.agg #[.slice A n c,.slice TA tn tc,.slice SA sn sc,.slice OA (aP l).length oc,.map (some mb)],.func (.func 98) #[.agg #[.slice A n c,.slice TA tn tc,.slice SA sn sc,.slice OA (aP l).length oc,.map (some mb)]] #[]] w λe a=>e=.returned (.bool ((aP l).all λb=>!wrK G (L.map Ty.l) (aP l) 10 b))/\Below w.heap.size w a:=by
 refine jF 98 A TA SA OA (aP l) _ c n tc tn sc sn oc (aP l).length mb w rfl v q (λ_ _=>by kernel_rfl) (λk h W f=>?_);obtain⟨a,z,g,m,k,e,-,haz,-⟩:=ir u (kqp h);have b:=o _ (kqp h);rw[e] at b |-;obtain⟨d,D,s⟩:=qb rfl b;rw[mh];have h:wrB G (L.map Ty.l) (aP l) a z g k m 10=((List.range L[g].l.length).any λi=>wrF G L[g].l (aP l) a 10 i):=by unfold wrB;rw[if_neg (by decide),if_neg (by decide),if_neg (by decide),s]
 rw[h];exact yz A TA SA OA G L (aP l) c n tc tn sc sn oc (aP l).length mb a z g m 1 k W y j C d (t _ (kqp d)).2.2 D (by omega) (r.up f f.size) (p.up f f.size) B
theorem E5(p:blocks G 128=some l)(B:(aP l).length<=1000000)(C:G.length=n)(m:n<=2048)(E:L.length=tn)(D:∀x∈G,x<2^64)(y:∀x∈L,dj x.l=0/\kSz x.l=bp x.l.length/\x.l.length<=8)(r:∀b∈aP l,wrK G (L.map Ty.l) (aP l) 8 b=false)(t:RdB w w.heap.size OA (aP l))(s:RdL w w.heap.size TA L)(u:RdW w w.heap.size A G)(o:w.ownsMap prog 3 (plainElem prog 4) mb (aP l).length (fI ((aP l).map Bk.at_) (aP l).length)):
 Calls prog 100 #[.agg #[.slice A n c,.slice TA tn tc,.slice SA sn sc,.slice OA (aP l).length oc,.map (some mb)],.func (.func 99) #[.agg #[.slice A n c,.slice TA tn tc,.slice SA sn sc,.slice OA (aP l).length oc,.map (some mb)]] #[]] w λe a=>e=.returned (.bool ((aP l).all λb=>!wrK G (L.map Ty.l) (aP l) 11 b))/\Below w.heap.size w a:=by
 refine jF 99 A TA SA OA (aP l) _ c n tc tn sc sn oc (aP l).length mb w rfl B t (λ_ _=>by kernel_rfl) (λk h W d=>?_);obtain⟨a,z,j,q,k,e,-,haz,-⟩:=ir p (kqp h);have f:=r _ (kqp h);rw[e] at f |-;obtain⟨g,F,v⟩:=qb rfl f;rw[mh];have h:wrB G (L.map Ty.l) (aP l) a z j k q 11=((List.range L[j].l.length).any λi=>wrF G L[j].l (aP l) a 11 i):=by unfold wrB;rw[if_neg (by decide),if_neg (by decide),if_neg (by decide),v]
 rw[h];refine DV A TA SA OA G L (aP l) c n tc tn sc sn oc (aP l).length mb a z j q 1 k W C m E g (y _ (kqp g)).2.2 F (by omega) (u.up d d.size) (s.up d d.size) D (λb d=>?_) (eK o (d.block _ o.lt));obtain⟨b,z',ty',nx',mk',e,-,haz',hz2,-⟩:=ir p d;rw[e];show (b:Int)<n;omega
end
def Bj (G:List Nat) (e:Ending):Prop:=∃r:Int,e=.returned (.tuple #[.int .i64 r,.int .i64 (lk G.length)])/\0<=r/\(am (G.length:Int)=true->(r=0↔lay G=true))
def JN (G:List Nat) (T:List (List Nat)) (O:List Bk) (k:Nat):Prop:=∀r,7<=r->r<7+k->∀b∈O,wrK G T O r b=false
theorem BY(h:JN G T O k)(d:(O.all λb=>!wrK G T O (7+k) b)=true):JN G T O (k+1):=λr e hr b c=>by
 rcases kq8 r (7+k) with a|a
 .exact h r e a b c
 .have:r=7+k:=(by omega);subst this;have:=kzt.1 d b c
  simpa using this
theorem Fq(hk:k<5)(a:(O.all λb=>!wrK G T O (7+k) b)=false):¬ ∀r,7<=r->r<12->∀b∈O,wrK G T O r b=false:=λh=>by rw[kzt.2 λb c=>by rw[h (7+k) (by omega) (by omega) b c];rfl] at a;cases a
def nm (O:List Bk) (S:List Sl) (k:Nat):Prop:=∀i (h:i<S.length),i<k->kn O S[i]=true
theorem rO{S:List Sl}(hk:k<S.length)(h:nm O S k)(b:kn O S[k]=true):nm O S (k+1):=λi c hlt=>by
 rcases kq8 i k with a|a
 .exact h i c a
 .have:i=k:=(by omega);subst this;exact b
theorem xD(A:Option Addr)(G:List Nat)(c n:Nat)(w:World)(a:G.length=n)(i:n<=9223372036854775807)(g:n<=c)(d:RdW w w.heap.size A G)(b:∀x∈G,x<2^64):
 Calls prog 51 #[.slice A n c] w λe s=>Bj G e/\Below w.heap.size w s:=by
 subst a;have X:=y5 (aJ A G.length c w i);cases Y:am (G.length:Int)
 .have a:=y5 (bQ Y);have H:Hid (Bj G (.returned (.tuple #[.int .i64 0,.int .i64 8]))):=y5 ⟨0,by rw[a.out],kvo _,λh=>by rw[Y] at h;cases h⟩;rw[a.out] at X;clear Y d b i g;go_enter func51,ntmps51;go_wp2_with fail;refine X.out.mono ?_;rintro e j ⟨rfl,rfl⟩;go_wp2;go_ret2;exact⟨H.out,kqe _ _⟩
 have a:=y5 (aM Y);have N:=(ae _).1 Y;have Kh:=y5 (BA A G c G.length w rfl Y g d b);have Q:Hid (∀r:Int,0<r->lay G=false->Bj G (.returned (.tuple #[.int .i64 r,.int .i64 0]))):=y5 λr h h2=>⟨r,by rw[a.out],by omega,λ_=>⟨λf=>by omega,λf=>by rw[h2] at f;cases f⟩⟩;have Kb:Hid (lay G=true->Bj G (.returned (.tuple #[.int .i64 0,.int .i64 0]))):=y5 λh=>⟨0,by rw[a.out],kvo _,λ_=>⟨λ_=>h,λ_=>rfl⟩⟩;rw[a.out] at X;obtain⟨HR,Kg⟩:=yq0 d b;have hlen:256<=G.length/\G.length<=2048:=(by omega);have hi5:(prog.info? 163).map (·.size)=some (#[.slice none 0 0,.slice none 0 0,.slice none 0 0,.slice none 0 0,.map none]:Array Value).size:=vI;unfold PtRes at Kh;clear Y d b i g N;go_enter func51,ntmps51;go_wp2_with fail;refine X.out.mono ?_;rintro e j ⟨rfl,rfl⟩;go_wp2_with fail;refine Kh.out.mono ?_;rintro e J ⟨⟨r,sv,rfl,Ld,U,I⟩,a⟩;have Ka:=y5 a;have Z:=a.size;clear a;by_cases h0:r=0
 .subst h0;obtain⟨t,l,P⟩:=I rfl;have PQ:=y5 P;obtain⟨m,a,d,B,z,y,o,L,rfl,j,g,q,k,i⟩:=P.mem;obtain⟨Kc,HK,Kn,Kq,Kp,Ko,Ks⟩:=yq5 (qC P.ty P.bl) (CQ P.tys g) j q k i g;have f:(aP l).length<=1000000:=by have:=(bv (by omega) _ _ P.bl (by omega) (by omega) (by omega)).1;have:=kxz (λb:Bk=>b.kind==1) l;unfold aP;omega
  have R:=y5 f;have Lc:=i.lt;clear U I P j g q k i f Ld;have u:((J.alloc (.cells #[.slice A G.length c,.slice m L.length B,.slice a 16 z,.slice d (aP l).length y,.map (some o)] 163)).alloc (.cells #[.func (.func 95) #[.agg #[.slice A G.length c,.slice m L.length B,.slice a 16 z,.slice d (aP l).length y,.map (some o)]] #[],.func (.func 96) #[.agg #[.slice A G.length c,.slice m L.length B,.slice a 16 z,.slice d (aP l).length y,.map (some o)]] #[],.func (.func 97) #[.agg #[.slice A G.length c,.slice m L.length B,.slice a 16 z,.slice d (aP l).length y,.map (some o)]] #[],.func (.func 98) #[.agg #[.slice A G.length c,.slice m L.length B,.slice a 16 z,.slice d (aP l).length y,.map (some o)]] #[],.func (.func 99) #[.agg #[.slice A G.length c,.slice m L.length B,.slice a 16 z,.slice d (aP l).length y,.map (some o)]] #[]] 166)).heap.size=J.heap.size+1+1:=(by simp);have j:=((kqe J.heap.size J).alloc (kqa _) (.cells #[.slice A G.length c,.slice m L.length B,.slice a 16 z,.slice d (aP l).length y,.map (some o)] 163)).alloc (by simp) (.cells #[.func (.func 95) #[.agg #[.slice A G.length c,.slice m L.length B,.slice a 16 z,.slice d (aP l).length y,.map (some o)]] #[],.func (.func 96) #[.agg #[.slice A G.length c,.slice m L.length B,.slice a 16 z,.slice d (aP l).length y,.map (some o)]] #[],.func (.func 97) #[.agg #[.slice A G.length c,.slice m L.length B,.slice a 16 z,.slice d (aP l).length y,.map (some o)]] #[],.func (.func 98) #[.agg #[.slice A G.length c,.slice m L.length B,.slice a 16 z,.slice d (aP l).length y,.map (some o)]] #[],.func (.func 99) #[.agg #[.slice A G.length c,.slice m L.length B,.slice a 16 z,.slice d (aP l).length y,.map (some o)]] #[]] 166)
  have q:=(Bx.new J 163 #[.slice A G.length c,.slice m L.length B,.slice a 16 z,.slice d (aP l).length y,.map (some o)]).alloc (.cells #[.func (.func 95) #[.agg #[.slice A G.length c,.slice m L.length B,.slice a 16 z,.slice d (aP l).length y,.map (some o)]] #[],.func (.func 96) #[.agg #[.slice A G.length c,.slice m L.length B,.slice a 16 z,.slice d (aP l).length y,.map (some o)]] #[],.func (.func 97) #[.agg #[.slice A G.length c,.slice m L.length B,.slice a 16 z,.slice d (aP l).length y,.map (some o)]] #[],.func (.func 98) #[.agg #[.slice A G.length c,.slice m L.length B,.slice a 16 z,.slice d (aP l).length y,.map (some o)]] #[],.func (.func 99) #[.agg #[.slice A G.length c,.slice m L.length B,.slice a 16 z,.slice d (aP l).length y,.map (some o)]] #[]] 166)
  have i:=Bx.new (J.alloc (.cells #[.slice A G.length c,.slice m L.length B,.slice a 16 z,.slice d (aP l).length y,.map (some o)] 163)) 166 #[.func (.func 95) #[.agg #[.slice A G.length c,.slice m L.length B,.slice a 16 z,.slice d (aP l).length y,.map (some o)]] #[],.func (.func 96) #[.agg #[.slice A G.length c,.slice m L.length B,.slice a 16 z,.slice d (aP l).length y,.map (some o)]] #[],.func (.func 97) #[.agg #[.slice A G.length c,.slice m L.length B,.slice a 16 z,.slice d (aP l).length y,.map (some o)]] #[],.func (.func 98) #[.agg #[.slice A G.length c,.slice m L.length B,.slice a 16 z,.slice d (aP l).length y,.map (some o)]] #[],.func (.func 99) #[.agg #[.slice A G.length c,.slice m L.length B,.slice a 16 z,.slice d (aP l).length y,.map (some o)]] #[]];rw[kqm] at i;have C:=y5 (λW (N:Below J.heap.size J W)=>(And.intro (Kp.out.up N N.size) (And.intro (Kn.out.up N N.size) (And.intro (Kq.out.up N N.size) (eK Ko.out (N.block _ Lc))))));go_wp2_with fail
  obtain⟨K,E⟩:=xq ((J.alloc (.cells #[.slice A G.length c,.slice m L.length B,.slice a 16 z,.slice d (aP l).length y,.map (some o)] 163)).alloc (.cells #[.func (.func 95) #[.agg #[.slice A G.length c,.slice m L.length B,.slice a 16 z,.slice d (aP l).length y,.map (some o)]] #[],.func (.func 96) #[.agg #[.slice A G.length c,.slice m L.length B,.slice a 16 z,.slice d (aP l).length y,.map (some o)]] #[],.func (.func 97) #[.agg #[.slice A G.length c,.slice m L.length B,.slice a 16 z,.slice d (aP l).length y,.map (some o)]] #[],.func (.func 98) #[.agg #[.slice A G.length c,.slice m L.length B,.slice a 16 z,.slice d (aP l).length y,.map (some o)]] #[],.func (.func 99) #[.agg #[.slice A G.length c,.slice m L.length B,.slice a 16 z,.slice d (aP l).length y,.map (some o)]] #[]] 166));rw[E] at u j q i |-;obtain⟨D,M,BX,BF,HS4⟩:=yq3 j (Ka.out.trans (j.mono Z)) q i u
  have Kr:Hid (∀k,k<5->JN G (iu G t 8) (aP l) k->∃f,(#[.func (.func 95) #[.agg #[.slice A G.length c,.slice m L.length B,.slice a 16 z,.slice d (aP l).length y,.map (some o)]] #[],.func (.func 96) #[.agg #[.slice A G.length c,.slice m L.length B,.slice a 16 z,.slice d (aP l).length y,.map (some o)]] #[],.func (.func 97) #[.agg #[.slice A G.length c,.slice m L.length B,.slice a 16 z,.slice d (aP l).length y,.map (some o)]] #[],.func (.func 98) #[.agg #[.slice A G.length c,.slice m L.length B,.slice a 16 z,.slice d (aP l).length y,.map (some o)]] #[],.func (.func 99) #[.agg #[.slice A G.length c,.slice m L.length B,.slice a 16 z,.slice d (aP l).length y,.map (some o)]] #[]]:Array Value)[k]? = some f/\∀W,Below K.heap.size K W->Calls prog 100 #[.agg #[.slice A G.length c,.slice m L.length B,.slice a 16 z,.slice d (aP l).length y,.map (some o)],f] W λe s=>e=.returned (.bool ((aP l).all λb=>!wrK G (iu G t 8) (aP l) (7+k) b))/\Below W.heap.size W s):=y5 λk V Eq=>by
   have v:=PQ.out;have F:∀W,Below K.heap.size K W->Below J.heap.size J W:=λW g=>D.out.trans (g.mono D.out.size);rw[<-Ks.out] at Eq |-;have s:=λW (g:Below K.heap.size K W)=>HR.out.up (Ka.out.trans ((F W g).mono Z)) (kzu Z (F W g).size);have h8:2<=k->∀b∈aP l,wrK G (L.map Ty.l) (aP l) 8 b=false:=λh b N=>Eq 8 (by omega) (by omega) b N;rcases (show k=0\/k=1\/k=2\/k=3\/k=4 by omega) with rfl|rfl|rfl|rfl|rfl
   .exact ⟨_,rfl,λW g=>Ec v.bl R.out (C.out W (F W g)).1⟩
   .exact ⟨_,rfl,λW g=>B8 v.bl R.out rfl HK.out (C.out W (F W g)).1 (C.out W (F W g)).2.1⟩
   .exact ⟨_,rfl,λW g=>yi v.bl R.out rfl (by omega) rfl HK.out (h8 (by omega)) (C.out W (F W g)).1 (C.out W (F W g)).2.1 (s W g)⟩
   .exact ⟨_,rfl,λW g=>ye v.bl R.out rfl (by omega) rfl Kg.out HK.out (h8 (by omega)) (C.out W (F W g)).1 (C.out W (F W g)).2.1 (s W g)⟩
   exact⟨_,rfl,λW g=>E5 v.bl R.out rfl (by omega) rfl Kg.out HK.out (h8 (by omega)) (C.out W (F W g)).1 (C.out W (F W g)).2.1 (s W g) (C.out W (F W g)).2.2.2⟩
  have Kw:Hid (JN G (iu G t 8) (aP l) 0):=y5 λr s h2=>by omega
  obtain⟨Kz,Ky⟩:=yq0 (λk h s=>BY (G:=G) (T:=iu G t 8) (O:=aP l) (k:=k) h s) (λk h s=>Fq (G:=G) (T:=iu G t 8) (O:=aP l) (k:=k) h s);have La:J.heap.size+1<K.heap.size:=(by omega);have Ke:J.heap.size<K.heap.size:=(by omega);clear E u j q i;go_loopw [36] (λi wr=>∃k:Nat,k<=5/\i=.int .i64 k/\Hid (JN G (iu G t 8) (aP l) k)/\Below K.heap.size K wr) (λi _=>5-(intOf i).toNat)
  case atStart=>exact⟨0,by omega,rfl,Kw,kqe _ _⟩
  obtain⟨k,V,rfl,HT,E⟩:=hrel;by_cases F:k<5
  .obtain ⟨f,u,g⟩:=Kr.out k F HT.out;have hc0:=(E.cell (p:=⟨J.heap.size+1,k,none⟩) La).trans ((BF.out.cell k).trans u);obtain⟨HC,Eq,v⟩:=yq1 (g wr E) (Kz.out k HT.out) (Ky.out k F);obtain⟨q,W⟩:=xq (((aP l).all λb=>!wrK G (iu G t 8) (aP l) (7+k) b));rw[W] at HC Eq v;obtain⟨q0,q1,q2,q3,q4,-,-⟩:=(BX.out.up E Ke).c5;have j:=y5 E;have hz:=E.size;have hki:(k:Int)<5:=(by omega);have hk0:(0:Int)<=(k:Int):=(by omega);clear u g W E;cases q
   .have H:=y5 (Q.out (7+k) (by omega) (by
     cases W:lay G with
     | false=>rfl
     | true=>exact absurd (Kc.out.1 W).2.2.2.2.2.1 (v.out rfl)))
    go_wp2_with fail;refine HC.out.mono ?_;rintro e w5 ⟨rfl,g⟩;have u:=y5 (M.out.trans ((j.out.trans (g.mono hz)).mono M.out.size));clear g;go_wp2;go_ret2;exact⟨H.out,u.out⟩
   have H:=y5 (Eq.out rfl);go_wp2_with fail;refine HC.out.mono ?_;rintro e w5 ⟨rfl,g⟩;have u:=y5 (j.out.trans (g.mono hz));clear g;go_wp2;go_roundw;exact⟨k+1,by omega,by go_num,H,u.out⟩;simp[intOf];omega
  have Kx:=y5 (show JN G (iu G t 8) (aP l) 5 from λr s h2 b N=>HT.out r s (by omega) b N);have Eq:decide ((k:Int)<5)=false:=(by rw[kqb];omega);have b:decide (k<5)=false:=by rw[kqb];exact F
  obtain⟨-,-,q2,-,-,-,-⟩:=(BX.out.up E Ke).c5;have j:=y5 E;clear F V HT E;go_wp2_with fail;have Ku:Hid (nm (aP l) (slL G) 0):=y5 λi h s=>by omega
  obtain⟨Kv,Ki⟩:=yq0 (λk V h s=>rO (O:=aP l) (S:=slL G) (k:=k) V h s) (fi G);have Km:Hid (nm (aP l) (slL G) 16->lay G=true):=y5 λh=>Kc.out.2 ⟨PQ.out.z1,PQ.out.z2,PQ.out.tys,PQ.out.sls,PQ.out.adj,Kx.out,λs Y=>by
   obtain⟨i,g,rfl⟩:=kqy Y;exact h i g (by rw[Ki.out] at g;exact g)⟩
  have Kl:Hid (∀k (V:k<(slL G).length),kn (aP l) (slL G)[k]=false->lay G=false):=y5 λk V h=>by
   cases W:lay G with
   | false=>rfl
   | true=>rw[(Kc.out.1 W).2.2.2.2.2.2 _ (kqp V)] at h;cases h
  have Kk:Hid (∀k (V:k<(slL G).length),∃g v:Nat,(slL G)[k]=⟨(g:Int),(slL G)[k].used,(v:Int)⟩/\v<4294967296):=y5 λk V=>by
   rw[lH G V];exact⟨_,_,rfl,kz3 _ (by decide)⟩
  clear Eq b q2;go_loopw [51] (λi wr=>∃k:Nat,k<=16/\i=.int .i64 k/\Hid (nm (aP l) (slL G) k)/\Below K.heap.size K wr) (λi _=>16-(intOf i).toNat)
  case atStart=>exact⟨0,by omega,rfl,Ku,j.out⟩
  obtain⟨j,hj,rfl,HT,E⟩:=hrel;by_cases F:j<16
  .have h:j<(slL G).length:=by rw[Ki.out];exact F
   obtain⟨bS,oS,rfl,hbS,p0,p1,p2⟩:=RdS.at_ (show RdS wr wr.heap.size a (slL G) from (C.out wr (D.out.trans (E.mono D.out.size))).2.2.1) h;obtain⟨g,v,s,hv⟩:=Kk.out j h;obtain⟨Kd,Kf⟩:=yq0 (Kv.out j h HT.out) (Kl.out j h);obtain⟨x,Kj⟩:=xq ((slL G)[j]);rw[Kj] at p0 p1 p2 s Kd Kf;obtain⟨u,hu⟩:=xq x.used;rw[hu] at p1 s;subst s;dsimp only at p0 p2;have hjj:(j:Int)<16:=(by omega);have hj0:(0:Int)<=(j:Int):=(by omega);obtain⟨-,-,-,-,q4,-,-⟩:=(BX.out.up E Ke).c5;have hgw:J.heap.size<wr.heap.size:=by have:=E.size;omega
   have hz:=E.size;obtain⟨s,Kt⟩:=yq0 (E.alloc hz (.cells #[.int .i64 (g:Int),.bool u,.int .i64 (v:Int)] 52)) ((C.out wr (D.out.trans (E.mono D.out.size))).2.2.2.alloc (.cells #[.int .i64 (g:Int),.bool u,.int .i64 (v:Int)] 52));clear Kj hu h E;cases u
   .have H:=y5 (Kd.out rfl);go_wp2;go_roundw;exact⟨j+1,by omega,by go_num,H,s.out⟩;simp[intOf];omega
   have Kj:(Lit.int .i64 (v:Int)).wf=true:=by simp[Lit.wf,IntKind.min,IntKind.max,IntKind.signed,IntKind.bits];omega
   have Lb:=jf Kt.out nh underlying161 underlying4 (m9 _) (keyOf_int_mk (P:=prog) underlying3 Kj) (c:=mw (aP l) v) (by rw[na,vl]);have h:Hid (kn (aP l) ⟨(g:Int),true,(v:Int)⟩=mw (aP l) v):=y5 (by unfold kn;simp);obtain⟨q,W⟩:=xq (mw (aP l) v);rw[W] at Lb h;clear Kj W hv;cases q
   .have H:=y5 (Q.out 12 (by decide) (Kf.out h.out));go_wp2;go_ret2;exact⟨H.out,M.out.trans (s.out.mono M.out.size)⟩
   have H:=y5 (Kd.out h.out);go_wp2;go_roundw;exact⟨j+1,by omega,by go_num,H,s.out⟩;simp[intOf];omega
  have Eq:decide ((j:Int)<16)=false:=(by rw[kqb];omega);have b:decide (j<16)=false:=by rw[kqb];exact F
  have H:=y5 (Kb.out (Km.out (by have:=HT.out;rwa [show j=16 by omega] at this)));clear F hj HT;go_wp2;go_ret2;exact⟨H.out,M.out.trans (E.mono M.out.size)⟩
 obtain⟨a,rfl⟩:=U h0;have H:=y5 (Q.out r (by omega) a);have e1:(r != 0)=true:=by rw[kqx];exact h0
 clear U I;go_wp2;go_ret2;exact⟨H.out,Ka.out.alloc Z _⟩
theorem Aj(A:Option Addr)(G:List Nat)(c n:Nat)(w:World)(d:G.length=n)(b:n<=9223372036854775807)(a:n<=c)(g:RdW w w.heap.size A G)(f:∀x∈G,x<2^64):
 Calls prog 16 #[.slice A n c] w λe h=>e=.returned (.int .i64 (d7 G))/\Below w.heap.size w h:=by
 subst d;have d:=y5 (xD A G c G.length w rfl b a g f);unfold Bj at d;clear g f a b;cases b:am (G.length:Int)
 .have f:Hid (d7 G=8):=y5 (by unfold d7;rw[b];rfl);rw[bQ b] at d;clear b;go_enter func16,ntmps16;go_wp2_with fail;refine d.out.mono ?_;rintro e j ⟨⟨r,rfl,-,-⟩,a⟩;go_wp2;go_ret;exact⟨by rw[f.out];rfl,a⟩
 have f:Hid (d7 G=if lay G=true then 0 else 50):=y5 (by unfold d7;rw[b];rfl);rw[aM b] at d;have h:=y5 b;clear b;go_enter func16,ntmps16;go_wp2_with fail;refine d.out.mono ?_;rintro e j ⟨⟨r,rfl,i,b⟩,a⟩;have g:=y5 (b h.out);clear b;by_cases b:r=0
 .have e:=y5 (g.out.1 b);subst b;go_wp2;go_ret;exact⟨by rw[f.out,e.out];rfl,a⟩
 have e:Hid (lay G=false):=y5 (by
  cases j:lay G with
  | false=>rfl
  | true=>exact absurd (g.out.2 j) b)
 have d1:decide ((0:Int)<r)=true:=(by rw[kqh];omega);clear b i;go_wp2;go_ret;exact⟨by rw[f.out,e.out];rfl,a⟩
open Go.RowKit
noncomputable def coL (G:List Nat):List (List En):=if d7 G=0 then [⟨16,1⟩]::(rsE (qt G)).2.1 else []
theorem og(h:d7 G=0):am (G.length:Int)=true/\lay G=true:=by
 unfold d7 at h;cases a:am (G.length:Int)
 .rw[a] at h;cases h
 rw[a,if_pos rfl] at h;cases b:lay G
 .rw[b] at h;cases h
 exact⟨rfl,rfl⟩
theorem Lay.all(h:Lay G t)(a:∀v∈G,v<2^64):tU (qt G)=(0,(rsE (qt G)).2.1,cpZ G):=by unfold tU;rw[if_pos h.first.2.1];have:=(h.run a).all;rw[this];rfl
theorem AF(A:Option Addr)(G:List Nat)(c n:Nat)(w:World)(g:G.length=n)(f:n<=9223372036854775807)(b:n<=c)(i:RdW w w.heap.size A G)(h:∀x∈G,x<2^64):
 Calls prog 14 #[.slice A n c] w λe a=>ey w.heap.size (d7 G) (if d7 G=0 then [⟨16,1⟩] else []) e a/\Below w.heap.size w a:=by
 have d:=y5 (Aj A G c n w g f b i h);obtain⟨r,a⟩:=xq (d7 G);rw[a] at d |-;clear i h b f g a;by_cases b:r=0
 .subst b;rw[if_pos rfl];go_enter func14,ntmps14;go_wp2_with fail;refine d.out.mono ?_;rintro e f ⟨rfl,a⟩;obtain⟨h,g⟩:=yq0 (a8 (n:=1) (sz:=2) f 89 #[.int .i64 16,.int .u64 1] (kqa _) (by rfl) (by unfold maxLen;omega)) (a.alloc a.size (.cells #[.int .i64 16,.int .u64 1] 89));have i:=a.size;go_wp2;go_ret2;exact⟨⟨some ⟨f.heap.size,0,none⟩,1,rfl,ab h.out i⟩,g.out⟩
 rw[if_neg b];have e1:(r != 0)=true:=by rw[kqx];exact b
 clear b;go_enter func14,ntmps14;go_wp2_with fail;refine d.out.mono ?_;rintro e f ⟨rfl,a⟩;go_wp2;go_ret2;exact⟨bZ rfl rfl,a⟩
theorem rC{H c:Nat}(h:w.ownsRow H e sz (.slice (some ⟨g,0,none⟩) n c) n xs):∃a:List Value,w.heap[g]? = some (.cells a.toArray e (0,0))/\H<=g/\n<=c/\c<=maxLen/\a.length=c*sz/\a.take (n*sz)=xs:=by
 rcases h.2 with⟨b,-⟩|⟨g',cap,a,b,d,f,i,j,k,l⟩
 .cases b
 simp only[Value.slice.injEq,Option.some.injEq,Addr.mk.injEq,and_true,true_and] at b;obtain⟨rfl,rfl⟩:=b;exact⟨a.toList,by rw[f],d,i,j,by rw[kkw,k],l⟩
theorem tG{P:Program}{ops:Array Oper}{rest:List Oper}{a:Act}{Q:Exit->Act->World->Prop}{dst:Option Tmp}{type:TypeId}{pos:String}{after:Array Edge}{guard:Option (Nat × Bool)}{xs:Array Operand}{ts:Array TypeId}(h:wpList P ops Q ({ dst:=dst,op:=.call { callee:=.builtin .copy,args:=xs,argTypes:=ts },type:=type,pos:=pos,after:=after,guard:=guard }::rest) a w):wpList P ops Q ({ dst:=dst,op:=.call { callee:=.builtin .copy,args:=xs,argTypes:=ts },type:=type,pos:=pos,after:=after,guard:=guard }::rest) a w:=h
theorem iO(b o j:Nat):(⟨b,o,none⟩:Addr).add j=⟨b,o+j,none⟩:=by unfold Addr.add;split<;>simp_all
end Go.Proofs.YtpcajamacpbjcaaGreat
