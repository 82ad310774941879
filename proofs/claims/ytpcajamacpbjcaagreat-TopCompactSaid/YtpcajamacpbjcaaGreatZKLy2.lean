/- Texts laid together: LyE LyF LyG LyH. -/
import Derived.Test.YtpcajamacpbjcaaGreatZKLy1
import Derived.Test.YtpcajamacpbjcaaGreatZKCp2
import Derived.Laws.EntriesVeiled
set_option maxHeartbeats 16000000
set_option maxRecDepth 100000
set_option linter.all false
namespace Go.Proofs.YtpcajamacpbjcaaGreat
open Lib (hid)
open Go.RowKit Go.Maps
variable {T:List (List Nat)}{O:List Bk}{ws:List Nat}{k:Nat}
open Go.Proofs.Tryz
theorem jD(f:FuncId)(A TA SA OA:Option Addr)(O:List Bk)(p:Bk->Bool)(c n tc tn sc sn oc on mb:Nat)(w:World)(ho:O.length=on)(hm:on<=1000000)(hO:RdB w w.heap.size OA O)(hcf:∀args W,(callFunc f args).run prog W=.ok (.enter f args) W)(HF:∀k (h:k<O.length) W,Below w.heap.size w W->Calls prog f #[.agg #[.slice A n c,.slice TA tn tc,.slice SA sn sc,.slice OA on oc,.map (some mb)],O[k].val] W λe w'=>e=.returned (.bool (p O[k]))/\Below W.heap.size W w'):
 Calls prog 100 #[.agg #[.slice A n c,.slice TA tn tc,.slice SA sn sc,.slice OA on oc,.map (some mb)],.func (.func f) #[.agg #[.slice A n c,.slice TA tn tc,.slice SA sn sc,.slice OA on oc,.map (some mb)]] #[]] w λe w'=>e=.returned (.bool (O.all p))/\Below w.heap.size w w':=by
 subst ho;have F:=hid (Bx.new w 163 #[.slice A n c,.slice TA tn tc,.slice SA sn sc,.slice OA O.length oc,.map (some mb)]);have J:=hid ((kqk w.heap.size w).alloc (kqa _) (.cells #[.slice A n c,.slice TA tn tc,.slice SA sn sc,.slice OA O.length oc,.map (some mb)] 163));have Y:=hid hO;have C:=hid HF;have u:=hid hcf;have HA:Hid ((∀j (h:j<O.length),p O[j]=true)->O.all p=true):=hid λh=>kzv.2 λx y=>by
  obtain⟨j,r,rfl⟩:=kq0 y;exact h j r
 have X:Hid (∀j (h:j<O.length),p O[j]=false->O.all p=false):=hid λj r h=>by
  cases B:O.all p with
  | false=>rfl
  | true=>rw[kzv.1 B _ (kqn r)] at h;cases h
 obtain⟨D,s⟩:=xq (w.alloc (.cells #[.slice A n c,.slice TA tn tc,.slice SA sn sc,.slice OA O.length oc,.map (some mb)] 163));have G:=hid (show Below w.heap.size w D by rw[<-s];exact J.out);rw[s] at F;obtain⟨q0,q1,q2,q3,q4,-,-⟩:=F.out.c5;clear hO HF F J hcf;go_enter func100,ntmps100;go_wp2_with fail;clear s;go_loopw [10] (λi wr=>∃k:Nat,k<=O.length/\i=.int .i64 k/\Hid (∀j (h:j<O.length),j<k->p O[j]=true)/\Below w.heap.size w wr) (λi _=>O.length-(intOf i).toNat)
 case atStart=>exact⟨0,kqz _,rfl,hid λj _ h=>absurd h (by omega),G.out⟩
 obtain⟨k,hk,rfl,K,z⟩:=hrel;have R:=z.size;by_cases d:k<O.length
 .obtain ⟨b,off,rfl,T,P,I,M,Q,N,H⟩:=RdB.at_ (Rd.below Y.out z) d;have t:=hid (C.out k d);have m:Hid (p O[k]=true->∀j (h:j<O.length),j<k+1->p O[j]=true):=hid λV j r h=>by
   rcases kq7 j k with L|L
   .exact K.out j r L
   have:j=k:=by omega
   subst this;exact V
  have o:=hid (X.out k d);obtain⟨x,y⟩:=xq (O[k]);rw[y] at P I M Q N H t m o;obtain⟨q,B⟩:=xq (p x);rw[B] at t m o;obtain⟨xa,xs,xk,U,xm,Z⟩:=x;dsimp only[Bk.val] at P I M Q N H t;have hki:(k:Int)<(O.length:Int):=by omega
  have hk0:(0:Int)<=(k:Int):=by omega
  have a:=hid (z.alloc R (.cells #[.int .i64 xa,.int .i64 xs,.int .i64 xk,.int .i64 U,.bool xm,.int .u64 (Z:Int)] 55));clear y B T;cases q
  .have v:=hid (o.out rfl);go_wp2_with fail;rw[u.out];simp only[Oper.upon];refine (t.out _ a.out).mono ?_;rintro e S ⟨rfl,g⟩;have l:=hid (a.out.trans (g.mono a.out.size));clear g;go_wp2;go_ret;exact⟨by rw[v.out];rfl,l.out⟩
  have v:=hid (m.out rfl);go_wp2_with fail;rw[u.out];simp only[Oper.upon];refine (t.out _ a.out).mono ?_;rintro e S ⟨rfl,g⟩;have l:=hid (a.out.trans (g.mono a.out.size));clear g;go_wp2;go_roundw
  case rel=>exact⟨k+1,by omega,by go_num,v,l.out⟩
  case measure=>simp[intOf];omega
 have E:k=O.length:=by omega
 have v:=hid (HA.out λj r=>K.out j r (by omega));have hend:decide ((k:Int)<(O.length:Int))=false:=by rw[kqh];omega
 have hendn:decide (k<O.length)=false:=by rw[kqh];exact d
 clear E d hk;go_wp2;go_ret;exact⟨by rw[v.out];rfl,z⟩
theorem wN:(prog.info? 163).map (·.size)=some 5:=by kernel_rfl
theorem zeroSg(w:World):(zeroValue 163).run prog w=.ok (.agg #[.slice none 0 0,.slice none 0 0,.slice none 0 0,.slice none 0 0,.map none]) w:=by kernel_rfl
theorem fI{fn:Func}{p q:Tmp}(h:fn.results=#[.cell p 163,.tmp q])(tmps:Array Value){W:World}{g:Nat}{t:TypeId}{cs:Array Value}{u:Value}(hb:Bx W g t cs)(hs:cs.size=5)(hp:tmps.getD p undef=.pointer (some ⟨g,0,none⟩))(hq:tmps.getD q undef=u):
 (results fn tmps).run prog W=.ok (.tuple #[.agg cs,u]) W:=by
 have b:tmps[p]?.getD undef=.pointer (some ⟨g,0,none⟩):=by simpa using hp
 have a:tmps[q]?.getD undef=u:=by simpa using hq
 have d:(prog.info? 163).map (·.size)=some cs.size:=by rw[hs];exact wN
 have c:=run_loadVar_row W g t 163 cs (0,0) _ hb underlying163 rfl d;simp[results,h,b,a,asAddr,c]
structure PtOk (ws:List Nat) (A:Option Addr) (n c:Nat) (w':World) (sv:Array Value) (t:Nat) (l:List Bk):Prop where
 ty:tyN ws=some t
 bl:blocks ws 128=some l
 z1:fB ws 16=true
 z2:fB ws 24=true
 tys:ix ws t=true
 sls:slsOk ws=true
 adj:ky l=true
 mem:∃(TA SA OA:Option Addr) (tc sc oc mb:Nat) (L:List Ty),sv=#[.slice A n c,.slice TA L.length tc,.slice SA 16 sc,.slice OA (aM l).length oc,.map (some mb)]/\RdL w' w'.heap.size TA L/\L.map Ty.l=gc ws t 8/\RdS w' w'.heap.size SA (slL ws)/\RdB w' w'.heap.size OA (aM l)/\w'.ownsMap prog 3 (plainElem prog 4) mb (aM l).length (fD ((aM l).map Bk.at_) (aM l).length)
def PtRes (ws:List Nat) (A:Option Addr) (n c:Nat) (e:Ending) (w':World):Prop:=∃(r:Int) (sv:Array Value),e=.returned (.tuple #[.agg sv,.int .i64 r])/\0<=r/\(r≠0->lay ws=false/\sv=#[.slice none 0 0,.slice none 0 0,.slice none 0 0,.slice none 0 0,.map none])/\(r=0->∃t l,PtOk ws A n c w' sv t l)
def He (H:Nat) (ws:List Nat) (e:Ending) (w':World):Prop:=(dV ws=0->∃g,e=.returned (.tuple #[.slice (some ⟨g,0,none⟩) 16 16,.int .i64 (dV ws)])/\H<=g/\Bx w' g 118 ((slL ws).flatMap Sl.cells).toArray)/\(dV ws≠0->e=.returned (.tuple #[.slice none 0 0,.int .i64 (dV ws)]))
theorem IJ(A:Option Addr)(ws:List Nat)(c n:Nat)(w:World)(hn:ws.length=n)(hm:n<=9223372036854775807)(u:RdW w w.heap.size A ws)(ho:∀x∈ws,x<18446744073709551616):
 Calls prog 25 #[.slice A n c] w λe w'=>He w.heap.size ws e w'/\Below w.heap.size w w':=by
 have o:=hid (BH A ws c n w hn hm u ho);clear u ho hn hm;have q:=gF;by_cases i:dV ws=0
 .have d:fu ws=slL ws:=by simp[fu,i]
  have G:=hid (And.intro i d);have I:=fA ws;rw[i,IF i] at o;have b:(iW (slL ws)).size=48:=by rw[iL,fA]
  obtain⟨l,p⟩:=xq (slL ws);have H:=hid p;rw[p] at b o I G;have B:Hid (iW l=(l.flatMap Sl.cells).toArray):=hid rfl;have K:=hid (lP l);obtain⟨cs,C⟩:=xq (iW l);rw[C] at o b B K;have k:(prog.info? 118).map (·.size)=some cs.size:=by rw[b];exact kS
  clear i d p C I q;go_enter func25,ntmps25;go_wp2_with fail;refine o.out.mono ?_;rintro e t ⟨rfl,a⟩;have E:=oO;have D:cs.size=cg.size:=by rw[b,gF]
  have z:=Bx.new t 118 cg;have F:=hid z;have m:=hid (a.alloc a.size (.cells cg 118));have j:=a.size;clear z a;go_wp2_with (first
   | ((with_reducible refine ar 118 (.tmp 4) _ ?_);refine ao rfl _ _ _ rfl t.heap.size 118 cg cs (by rfl) (by rfl) F.out D k K.out ?_;intro L g f;have v:=hid g;have s:=hid (f.below m.out j);clear g f))
  go_ret2;refine⟨⟨λ_=>⟨t.heap.size,by rw[G.out.1];rfl,j,?_⟩,λh=>absurd G.out.1 h⟩,s.out⟩;have:=v.out;rw[B.out] at this;rw[H.out];exact this
 have d:fu ws=[]:=by simp[fu,i]
 rw[Eo i] at o;obtain⟨r,u⟩:=xq (dV ws);have J:=hid u;rw[u] at o i;have M:=hid i;have hrn:(r != 0)=true:=by rw[kqv];exact i
 have j:=hid l8;have k:(prog.info? 118).map (·.size)=some cg.size:=by rw[q];exact kS
 clear i d u q;go_enter func25,ntmps25;go_wp2_with fail;refine o.out.mono ?_;rintro e t ⟨rfl,a⟩;have E:=oO;have z:=Bx.new t 118 cg;have F:=hid z;have m:=hid (a.alloc a.size (.cells cg 118));have y:=a.size;clear z a;go_wp2_with (first
  | ((with_reducible refine ar 118 (.tmp 4) _ ?_);refine ao rfl _ _ _ rfl t.heap.size 118 cg cg (by rfl) (by rfl) F.out rfl k j.out ?_;intro L g f;have v:=hid g;have s:=hid (f.below m.out y);clear g f))
 go_ret2;exact⟨⟨λh=>absurd (J.out.symm.trans h) M.out,λ_=>by rw[J.out];rfl⟩,s.out⟩
structure PtS (wr:World) (H0 H3 H7 gs:Nat) (ws:List Nat) (TB AW:Option Addr) (td cW:Nat) (L:List Ty) (l:List Bk):Prop where
 x:Bx wr H0 163 #[.slice none 0 0,.slice none 0 0,.slice none 0 0,.slice none 0 0,.map none]
 t:vj wr H3 (.slice TB L.length td) L
 s:Bx wr gs 118 ((slL ws).flatMap Sl.cells).toArray
 b:wr.ownsRow H7 55 6 (.slice AW l.length cW) l.length (l.flatMap Bk.cells)
section
variable {wr wr':World} {H0 H3 H7 gs:Nat} {ws:List Nat} {TB AW:Option Addr} {td cW:Nat} {L:List Ty} {l:List Bk}
theorem PtS.alloc(h:PtS wr H0 H3 H7 gs ws TB AW td cW L l)(o:Obj):PtS (wr.alloc o) H0 H3 H7 gs ws TB AW td cW L l:=
 ⟨h.x.alloc o,⟨h.t.1.alloc o,λy a=>(h.t.2 y a).alloc o⟩,h.s.alloc o,h.b.alloc o⟩
theorem PtS.set_(h:PtS wr H0 H3 H7 gs ws TB AW td cW L l){p:Addr}(h0:H0≠p.block)(h3:p.block<H3)(h37:H3<=H7)(hg:H7<=gs)(u:Value):PtS (wr.setCell p u) H0 H3 H7 gs ws TB AW td cW L l:=
 ⟨h.x.far h0 u,⟨aw h.t.1 (bQ h.t.1 h3).symm u,λy a=>aw (h.t.2 y a) (bQ (h.t.2 y a) h3).symm u⟩,h.s.far (by omega) u,aw h.b (bQ h.b (by omega)).symm u⟩
theorem PtS.grown(h:PtS wr H0 H3 H7 gs ws TB AW td cW L l){row:Option Nat}(hg:wr.grownBy wr' row)(h0:some H0≠row)(hgs:some gs≠row)(h1:(Value.slice TB L.length td).ownBlock=none\/(Value.slice TB L.length td).ownBlock≠row)(h2:∀y∈L,(Value.slice y.A y.l.length y.c).ownBlock=none\/(Value.slice y.A y.l.length y.c).ownBlock≠row)(h3:(Value.slice AW l.length cW).ownBlock=none\/(Value.slice AW l.length cW).ownBlock≠row):PtS wr' H0 H3 H7 gs ws TB AW td cW L l:=
 ⟨h.x.grown hg h0,⟨aN h.t.1 hg h1,λy a=>aN (h.t.2 y a) hg (h2 y a)⟩,h.s.grown hg hgs,aN h.b hg h3⟩
def ptBk (B H0 gs:Nat) (TB AW:Option Addr) (td cW:Nat) (L:List Ty) (l:List Bk):Prop:=∀r,B<=r->H0≠r/\gs≠r/\(Value.slice TB L.length td).ownBlock≠some r/\(∀y∈L,(Value.slice y.A y.l.length y.c).ownBlock≠some r)/\(Value.slice AW l.length cW).ownBlock≠some r
theorem PtS.bk(h:PtS wr H0 H3 H7 gs ws TB AW td cW L l):ptBk wr.heap.size H0 gs TB AW td cW L l:=λr hr=>by
 refine⟨by have:=h.x.lt;omega,by have:=h.s.lt;omega,λe=>?_,λy a e=>?_,λe=>?_⟩
 .have:=(h.t.1.lt r e).2;omega
 .have:=((h.t.2 y a).lt r e).2;omega
 .have:=(h.b.lt r e).2;omega
theorem PtS.late(h:PtS wr H0 H3 H7 gs ws TB AW td cW L l){B:Nat}(hk:ptBk B H0 gs TB AW td cW L l){n:Nat}{v:Value}{xs:List Value}{e:TypeId}{sz:Nat}{wa:World}(hown:wa.ownsRow B e sz v n xs)(hg:wr.grownBy wr' v.ownBlock):PtS wr' H0 H3 H7 gs ws TB AW td cW L l:=by
 cases a:v.ownBlock with
 | none=>exact h.grown hg (by rw[a];simp) (by rw[a];simp) (by rw[a];exact Classical.em _) (λy _=>by rw[a];exact Classical.em _) (by rw[a];exact Classical.em _)
 | some r =>obtain⟨d,f,c,i,b⟩:=hk r (hown.lt r a).1;exact h.grown hg (by rw[a];simpa using d) (by rw[a];simpa using f) (.inr (by rw[a];exact c)) (λy g=>.inr (by rw[a];exact i y g)) (.inr (by rw[a];exact b))
end
theorem ID{l:List Bk}(hk:k<l.length)(h1:l[k].kind=1):(aM l)[(aM (l.take k)).length]? = some l[k]:=by
 have e:l=l.take k++l[k]::l.drop (k+1):=by rw[List.getElem_cons_drop];exact (kxb k l).symm
 have a:aM l=aM (l.take k)++l[k]::aM (l.drop (k+1)):=by
  conv=>lhs;rw[e]
  unfold aM;rw[kjc,kk6 (by rw[kqx];exact h1)]
 rw[a,kxl (kqa _)];simp
theorem Cq(A:Option Addr)(ws:List Nat)(c n:Nat)(w:World)(hn:ws.length=n)(hs:ak (n:Int)=true)(hc:n<=c)(U:RdW w w.heap.size A ws)(ho:∀x∈ws,x<18446744073709551616):
 Calls prog 94 #[.slice A n c] w λe w'=>PtRes ws A n c e w'/\Below w.heap.size w w':=by
 subst hn;have hb:=(ab _).1 hs;have HR:=hid U;have C:=hid (λW (U:RdW W W.heap.size A ws)=>FO A ws c ws.length W rfl (by omega) hc U);unfold Cu at C;have Le:jF ws=if (tyN ws).isSome=true then 0 else 50:=by unfold jF;rw[if_pos hs]
 have Lu:=hid (λW (U:RdW W W.heap.size A ws)=>(show Calls prog 157 #[.slice A ws.length c,.int .i64 16] W λe w'=>e=.returned (.bool (fB ws 16))/\W=w' from wF A ws c ws.length 16 W rfl (by omega) (by omega) hc U));have Lx:=hid (λW (U:RdW W W.heap.size A ws)=>(show Calls prog 157 #[.slice A ws.length c,.int .i64 24] W λe w'=>e=.returned (.bool (fB ws 24))/\W=w' from wF A ws c ws.length 24 W rfl (by omega) (by omega) hc U));have Lz:=hid (λW (U:RdW W W.heap.size A ws)=>IJ A ws c ws.length W rfl (by omega) U ho);have Mm:=hid (λW (U:RdW W W.heap.size A ws)=>Dj A ws c ws.length W rfl (by omega) U ho);unfold He at Lz;unfold vY at Mm;have hzv:=zeroSg;have Y:(prog.info? 163).map (·.size)=some (#[.slice none 0 0,.slice none 0 0,.slice none 0 0,.slice none 0 0,.map none]:Array Value).size:=wN;have X0:=hid (Bx.new w 163 #[.slice none 0 0,.slice none 0 0,.slice none 0 0,.slice none 0 0,.map none]);have B:=hid ((kqk w.heap.size w).alloc (kqa _) (.cells #[.slice none 0 0,.slice none 0 0,.slice none 0 0,.slice none 0 0,.map none] 163));cases ht:tyN ws with
 | none =>
  rw[ht] at C Le;rw[Le] at C;have HV:=hid (pM (.inl ht));simp only[kkr,kj4,kzm,if_false] at C;clear Le ht hs hb U ho Lu Lx Lz Mm hc;go_enter func94,ntmps94;go_wp2_with fail;refine (C.out _ (HR.out.up B.out B.out.size)).mono ?_;rintro e w1 ⟨⟨a,b0,b1,rfl⟩,X⟩;have o:=hid (B.out.trans (X.mono B.out.size));have X1:=hid (X0.out.up X X0.out.lt);have Lg:=o.out.size;have r:=hid ((o.out.alloc Lg (.cells #[.int .i64 a,.int .i64 0] 126)).alloc (by simp;omega) (.cells #[.bool b0,.bool b1] 127));have X2:=hid ((X1.out.alloc (.cells #[.int .i64 a,.int .i64 0] 126)).alloc (.cells #[.bool b0,.bool b1] 127));clear X;go_wp2_with (first
   | ((with_reducible refine ar 163 (.tmp 2) _ ?_);refine ao rfl _ _ _ rfl w.heap.size 163 #[.slice none 0 0,.slice none 0 0,.slice none 0 0,.slice none 0 0,.map none] #[.slice none 0 0,.slice none 0 0,.slice none 0 0,.slice none 0 0,.map none] (by rfl) (by rfl) X2.out rfl Y (by simp[Value.oneCell']) ?_;intro w9 d g;have m:=hid d;have j:=hid g;clear d g))
  exact kqq (v:=.tuple #[.agg #[.slice none 0 0,.slice none 0 0,.slice none 0 0,.slice none 0 0,.map none],.int .i64 1]) (fI results94 _ m.out rfl rfl rfl) rfl ⟨⟨1,_,rfl,by omega,λ_=>⟨HV.out,rfl⟩,λh=>by omega⟩,j.out.below r.out (kqa _)⟩
 | some t =>
  have Qf:=rZ ht;rw[ht] at C Le;rw[Le] at C;simp only[kq5,kkj,if_true] at C;have My:=hid (λW (U:RdW W W.heap.size A ws)=>Gj A ws c ws.length t W rfl hs Qf U ho);unfold J1 at My;have Qd:=hid (λl R=>oI (ws:=ws) (t:=t) (l:=l) ht R);have Mi:=hid (λh=>pM (ws:=ws) (.inr h));have Lk:Hid ((fB ws 16=false\/fB ws 24=false\/ix ws t=false\/slsOk ws=false\/yd ws=false)->lay ws=false):=hid λh=>by
   cases hq:lay ws with
   | false=>rfl
   | true =>
    cases R:blocks ws 128 with
    | none=>rw[Mi.out R] at hq;cases hq
    | some l =>obtain⟨a1,a2,a3,a4,a5,-⟩:=(Qd.out l R).1 hq;rw[a1,a2,a3,a4,gK R,a5] at h;simp at h
  have Qq:Hid (∀l,blocks ws 128=some l->∀k (hk:k<l.length),∃ka:Nat,l[k].at_=(ka:Int)/\ka<=2048):=hid λl R k hk=>by
   obtain⟨a,e,a1,a2,a3,a4,-⟩:=cC _ _ R (by omega) k hk;exact⟨a,by rw[e];rfl,by have:=(aJ a4).2.2;omega⟩
  have Qp:=hid (λl (R:blocks ws 128=some l)=>(bK (by omega) _ _ R (by omega) (by omega) (by omega)).1);have Mn:=hid hs;have HT:=hid ht;have Mr:Hid (∀mb W,(Instr.build 163 #[(0,.slice A ws.length c),(4,.map (some mb))]).run prog W=.ok (.agg #[.slice A ws.length c,.slice none 0 0,.slice none 0 0,.slice none 0 0,.map (some mb)]) W):=hid λ_ _=>by kernel_rfl
  have hb2048:ws.length<=2048:=by omega
  clear Le hs hb U ho ht hc;go_enter func94,ntmps94;go_wp2_with fail;refine (C.out _ (HR.out.up B.out B.out.size)).mono ?_;rintro e w1 ⟨⟨a,b0,b1,rfl⟩,X⟩;have o:=hid (B.out.trans (X.mono B.out.size));have X1:=hid (X0.out.up X X0.out.lt);have Lg:=o.out.size;have r:=hid ((o.out.alloc Lg (.cells #[.int .i64 a,.int .i64 (t:Int)] 126)).alloc (by simp;omega) (.cells #[.bool b0,.bool b1] 127));have X2:=hid ((X1.out.alloc (.cells #[.int .i64 a,.int .i64 (t:Int)] 126)).alloc (.cells #[.bool b0,.bool b1] 127));have T4:=hid ((Bx.new w1 126 #[.int .i64 a,.int .i64 (t:Int)]).alloc (.cells #[.bool b0,.bool b1] 127));clear X;go_wp2_with fail;obtain⟨f,Ni⟩:∃f,(w1.alloc (.cells #[.int .i64 a,.int .i64 (t:Int)] 126)).alloc (.cells #[.bool b0,.bool b1] 127)=f:=⟨_,rfl⟩;rw[Ni] at r X2 T4 |-;clear Ni X0 X1 B o;have Lb:=r.out.size;refine (Lu.out _ (HR.out.up r.out Lb)).mono ?_;rintro e w2 ⟨rfl,rfl⟩;cases Ml:fB ws 16
  .have HV:=hid (Lk.out (.inl Ml));go_wp2_with (first
    | ((with_reducible refine ar 163 (.tmp 2) _ ?_);refine ao rfl _ _ _ rfl w.heap.size 163 #[.slice none 0 0,.slice none 0 0,.slice none 0 0,.slice none 0 0,.map none] #[.slice none 0 0,.slice none 0 0,.slice none 0 0,.slice none 0 0,.map none] (by rfl) (by rfl) X2.out rfl Y (by simp[Value.oneCell']) ?_;intro w9 d g;have m:=hid d;have j:=hid g;clear d g))
   exact kqq (v:=.tuple #[.agg #[.slice none 0 0,.slice none 0 0,.slice none 0 0,.slice none 0 0,.map none],.int .i64 2]) (fI results94 _ m.out rfl rfl rfl) rfl ⟨⟨2,_,rfl,by omega,λ_=>⟨HV.out,rfl⟩,λh=>by omega⟩,j.out.below r.out (kqa _)⟩
  have Qe:=hid Ml;clear Ml;go_wp2_with fail;refine (Lx.out _ (HR.out.up r.out Lb)).mono ?_;rintro e w2 ⟨rfl,rfl⟩;cases Mg:fB ws 24
  .have HV:=hid (Lk.out (.inr (.inl Mg)));go_wp2_with (first
    | ((with_reducible refine ar 163 (.tmp 2) _ ?_);refine ao rfl _ _ _ rfl w.heap.size 163 #[.slice none 0 0,.slice none 0 0,.slice none 0 0,.slice none 0 0,.map none] #[.slice none 0 0,.slice none 0 0,.slice none 0 0,.slice none 0 0,.map none] (by rfl) (by rfl) X2.out rfl Y (by simp[Value.oneCell']) ?_;intro w9 d g;have m:=hid d;have j:=hid g;clear d g))
   exact kqq (v:=.tuple #[.agg #[.slice none 0 0,.slice none 0 0,.slice none 0 0,.slice none 0 0,.map none],.int .i64 3]) (fI results94 _ m.out rfl rfl rfl) rfl ⟨⟨3,_,rfl,by omega,λ_=>⟨HV.out,rfl⟩,λh=>by omega⟩,j.out.below r.out (kqa _)⟩
  have Nw:=hid Mg;clear Mg;have Nr:=Mr.out;have Nm:=@run_makeMap prog;obtain⟨-,t41,-,-,Qg⟩:=T4.out.c2;go_wp2_with fail;have g3:=Bx.new (f.alloc (Obj.map #[] 0)) 163 #[.slice A ws.length c,.slice none 0 0,.slice none 0 0,.slice none 0 0,.map (some f.heap.size)];rw[kqm] at g3;have m3:=(World.ownsMap_made (H:=Unit) f prog 3 (plainElem prog 4)).alloc (.cells #[.slice A ws.length c,.slice none 0 0,.slice none 0 0,.slice none 0 0,.map (some f.heap.size)] 163);have x3:=(X2.out.alloc (Obj.map #[] 0)).alloc (.cells #[.slice A ws.length c,.slice none 0 0,.slice none 0 0,.slice none 0 0,.map (some f.heap.size)] 163);have Lh:=(r.out.alloc Lb (Obj.map #[] 0)).alloc (by simp;omega) (.cells #[.slice A ws.length c,.slice none 0 0,.slice none 0 0,.slice none 0 0,.map (some f.heap.size)] 163);have Ma:((f.alloc (Obj.map #[] 0)).alloc (.cells #[.slice A ws.length c,.slice none 0 0,.slice none 0 0,.slice none 0 0,.map (some f.heap.size)] 163)).heap.size=f.heap.size+1+1:=by simp
  obtain⟨W3,Nk⟩:=xq ((f.alloc (Obj.map #[] 0)).alloc (.cells #[.slice A ws.length c,.slice none 0 0,.slice none 0 0,.slice none 0 0,.map (some f.heap.size)] 163));rw[Nk] at g3 m3 x3 Lh Ma |-;have Mx:=hid Ma;have Nt:w.heap.size<=W3.heap.size:=Lh.size;refine (My.out _ (HR.out.up Lh Lh.size)).mono ?_;rintro e w4 ⟨⟨S,tm,K,L,rfl,hT⟩,La⟩;have g4:=g3.up La g3.lt;have M4:=hid (eB m3 (La.block _ m3.lt));have X4:=hid (x3.up La x3.lt);have Mh:=hid (Lh.trans (La.mono Nt));have hz4:=La.size;have Ng:=x3.lt;have hg4:=g4.lt;obtain⟨q0,q1,q2,q3,q4,qf,-⟩:=g4.c5;have f1:=qf 1;have G4:=hid g4;have u:w.heap.size≠f.heap.size+1:=by have:=X2.out.lt;omega
  have hne7':=u.symm;clear Nk g3 m3 x3 Lh Ma La qf g4 X2 r T4 t41 Qg Nr Nm;cases Ld:ix ws t
  .rw[Ld] at hT;simp only[kzm,if_false];have HV:=hid (Lk.out (.inr (.inr (.inl Ld))));have X5:=hid (X4.out.far (p:=⟨f.heap.size+1,1,none⟩) u (.slice S tm K));have Np:=hid (Mh.out.setCell (p:=⟨f.heap.size+1,1,none⟩) (by dsimp only;omega) (.slice S tm K));clear hT Ld;go_wp2_with (first
    | ((with_reducible refine ar 163 (.tmp 2) _ ?_);refine ao rfl _ _ _ rfl w.heap.size 163 #[.slice none 0 0,.slice none 0 0,.slice none 0 0,.slice none 0 0,.map none] #[.slice none 0 0,.slice none 0 0,.slice none 0 0,.slice none 0 0,.map none] (by rfl) (by rfl) X5.out rfl Y (by simp[Value.oneCell']) ?_;intro w9 d g;have m:=hid d;have j:=hid g;clear d g))
   exact kqq (v:=.tuple #[.agg #[.slice none 0 0,.slice none 0 0,.slice none 0 0,.slice none 0 0,.map none],.int .i64 4]) (fI results94 _ m.out rfl rfl rfl) rfl ⟨⟨4,_,rfl,by omega,λ_=>⟨HV.out,rfl⟩,λh=>by omega⟩,j.out.below Np.out (kqa _)⟩
  obtain⟨rfl,Ll,Na⟩:=hT Ld;simp only[if_true];have Nz:=hid Ld;have Nn:=hid Na;have J:f.heap.size+1<W3.heap.size:=by have:=Mx.out;omega
  have OT5:=hid (show vj (w4.setCell ⟨f.heap.size+1,1,none⟩ (.slice S L.length K)) W3.heap.size (.slice S L.length K) L from ⟨aw Ll.1 (bQ Ll.1 J).symm _,λy hy=>aw (Ll.2 y hy) (bQ (Ll.2 y hy) J).symm _⟩);have X5:=hid (X4.out.far (p:=⟨f.heap.size+1,1,none⟩) u (.slice S L.length K));have G5:=hid (G4.out.set_ 1 (.slice S L.length K));have M5:=hid (M4.out.setCell (a:=⟨f.heap.size+1,1,none⟩) (by simp) (.slice S L.length K));have Kz:=Mh.out.setCell (p:=⟨f.heap.size+1,1,none⟩) (by dsimp only;omega) (.slice S L.length K);clear hT Ld Ll Na;go_wp2_with fail;obtain⟨W5,Mc⟩:∃W5,w4.setCell ⟨f.heap.size+1,1,none⟩ (.slice S L.length K)=W5:=⟨_,rfl⟩;have Qh:W5.heap.size=w4.heap.size:=by rw[<-Mc];simp
  rw[Mc] at OT5 X5 G5 M5 Kz |-;refine (Lz.out _ (HR.out.up Kz Kz.size)).mono ?_;rintro e w6 ⟨hh,N⟩;have Mv:=Kz.trans (N.mono Kz.size);have g6:=G5.out.up N G5.out.lt;have X6:=hid (X5.out.up N X5.out.lt);have M6:=hid (eB M5.out (N.block _ M5.out.lt));have OT6:=hid (show vj w6 W3.heap.size (.slice S L.length K) L from ⟨aa OT5.out.1 N (kqa _),λy hy=>aa (OT5.out.2 y hy) N (kqa _)⟩);have hz6:=N.size;have hx6:=X6.out.lt;obtain⟨q0',q1',q2',q3',q4',qf',hg6⟩:=g6.c5;have f2:=qf' 2;have G6:=hid g6;have Lf:=hid Mv;have hgz:f.heap.size+1<W5.heap.size:=G5.out.lt;have h35:W3.heap.size<=W5.heap.size:=by omega
  have q:dV ws=if slsOk ws=true then 0 else 50:=by unfold dV;rw[if_pos Mn.out]
  clear Mc Qh Kz N Mv g6 qf' q0 q1 q2 q3 q4 f1 X4 G4 M4 Mh X5 G5 M5 OT5;cases Ky:slsOk ws
  .rw[Ky] at q;simp only[kzm,if_false] at q;obtain rfl:=hh.2 (by rw[q];decide);have HV:=hid (Lk.out (.inr (.inr (.inr (.inl Ky)))));rw[q];have X7:=hid (X6.out.far (p:=⟨f.heap.size+1,2,none⟩) u (.slice none 0 0));have Mo:=hid (Lf.out.setCell (p:=⟨f.heap.size+1,2,none⟩) (by dsimp only;omega) (.slice none 0 0));clear Ky q hh;go_wp2_with (first
    | ((with_reducible refine ar 163 (.tmp 2) _ ?_);refine ao rfl _ _ _ rfl w.heap.size 163 #[.slice none 0 0,.slice none 0 0,.slice none 0 0,.slice none 0 0,.map none] #[.slice none 0 0,.slice none 0 0,.slice none 0 0,.slice none 0 0,.map none] (by rfl) (by rfl) X7.out rfl Y (by simp[Value.oneCell']) ?_;intro w9 d g;have m:=hid d;have j:=hid g;clear d g))
   exact kqq (v:=.tuple #[.agg #[.slice none 0 0,.slice none 0 0,.slice none 0 0,.slice none 0 0,.map none],.int .i64 5]) (fI results94 _ m.out rfl rfl rfl) rfl ⟨⟨5,_,rfl,by omega,λ_=>⟨HV.out,rfl⟩,λh=>by omega⟩,j.out.below Mo.out (kqa _)⟩
  rw[Ky] at q;simp only[if_true] at q;obtain⟨T,rfl,Qk,Nj⟩:=hh.1 q;rw[q];have Qb:=hid Ky;have Mp:T≠f.heap.size+1:=by omega
  have S7:=hid (Nj.far (p:=⟨f.heap.size+1,2,none⟩) Mp (.slice (some ⟨T,0,none⟩) 16 16));have X7:=hid (X6.out.far (p:=⟨f.heap.size+1,2,none⟩) u (.slice (some ⟨T,0,none⟩) 16 16));have G7:=hid (G6.out.set_ 2 (.slice (some ⟨T,0,none⟩) 16 16));have M7:=hid (M6.out.setCell (a:=⟨f.heap.size+1,2,none⟩) (by simp) (.slice (some ⟨T,0,none⟩) 16 16));have OT7:=hid (show vj (w6.setCell ⟨f.heap.size+1,2,none⟩ (.slice (some ⟨T,0,none⟩) 16 16)) W3.heap.size (.slice S L.length K) L from ⟨aw OT6.out.1 (bQ OT6.out.1 J).symm _,λy hy=>aw (OT6.out.2 y hy) (bQ (OT6.out.2 y hy) J).symm _⟩);have Eq:=Lf.out.setCell (p:=⟨f.heap.size+1,2,none⟩) (by dsimp only;omega) (.slice (some ⟨T,0,none⟩) 16 16);clear Ky q hh Nj;go_wp2_with fail;obtain⟨W7,Lp⟩:∃W7,w6.setCell ⟨f.heap.size+1,2,none⟩ (.slice (some ⟨T,0,none⟩) 16 16)=W7:=⟨_,rfl⟩;have Ls:W7.heap.size=w6.heap.size:=by rw[<-Lp];simp
  rw[Lp] at OT7 X7 G7 M7 S7 Eq |-;refine (Mm.out _ (HR.out.up Eq Eq.size)).mono ?_;rintro e w8 ⟨⟨AW,cW,rfl,E⟩,z⟩;have Mb:=hid (Eq.trans (z.mono Eq.size));have X8:=hid (X7.out.up z X7.out.lt);have hgl:T<W7.heap.size:=S7.out.lt;have Qj:W5.heap.size<=W7.heap.size:=by omega
  cases F:yd ws
  .have HV:=hid (Lk.out (.inr (.inr (.inr (.inr F)))));have he:jl ws=50:=by unfold jl;rw[if_pos Mn.out,F];rfl
   have ho:iw ws=[]:=by unfold iw;rw[if_neg (by rw[he];decide)]
   rw[he,ho];clear F he ho E Eq z Lp Ls q0' q1' q2' q3' q4' f2;go_wp2_with (first
    | ((with_reducible refine ar 163 (.tmp 2) _ ?_);refine ao rfl _ _ _ rfl w.heap.size 163 #[.slice none 0 0,.slice none 0 0,.slice none 0 0,.slice none 0 0,.map none] #[.slice none 0 0,.slice none 0 0,.slice none 0 0,.slice none 0 0,.map none] (by rfl) (by rfl) X8.out rfl Y (by simp[Value.oneCell']) ?_;intro w9 d g;have m:=hid d;have j:=hid g;clear d g))
   exact kqq (v:=.tuple #[.agg #[.slice none 0 0,.slice none 0 0,.slice none 0 0,.slice none 0 0,.map none],.int .i64 6]) (fI results94 _ m.out rfl rfl rfl) rfl ⟨⟨6,_,rfl,by omega,λ_=>⟨HV.out,rfl⟩,λh=>by omega⟩,j.out.below Mb.out (kqa _)⟩
  have he:jl ws=0:=by unfold jl;rw[if_pos Mn.out,F];rfl
  obtain⟨l,R⟩:∃l,blocks ws 128=some l:=by
   cases R:blocks ws 128 with
   | none=>rw[oq R] at F;cases F
   | some l=>exact⟨l,rfl⟩
  have ho:iw ws=l:=by unfold iw;rw[if_pos he,R];rfl
  have Lt:ky l=true:=by rw[<-gK R];exact F
  rw[ho] at E;rw[he,ho];have hl24:l.length<=1024:=by have:=Qp.out l R;omega
  have HL:=hid R;have Qi:=hid Lt;have P8:=hid (show PtS w8 w.heap.size W3.heap.size W5.heap.size T ws S AW K cW L l from ⟨X8.out,⟨aa OT7.out.1 z (kqa _),λy hy=>aa (OT7.out.2 y hy) z (kqa _)⟩,S7.out.up z S7.out.lt,am E Qj⟩);have Qa:=hid P8.out.bk;have G8:=hid (G7.out.up z G7.out.lt);have M8:=hid (eB M7.out (z.block _ M7.out.lt));have Mw:=G8.out.lt;have Mz:=M8.out.lt;have Qn:=Mb.out.size;have No:=hid (Qq.out l HL.out);clear F he ho R Lt E Eq z Lp Ls q0' q1' q2' q3' q4' f2 OT6 OT7 X6 X7 X8 G6 G7 M6 M7 S7 Lf;obtain⟨i2,hi,Mq,Lg,Lb⟩:=kzr lx;have HJ:=hid hi;have Ny:=hid Mq;have Qc:=hid Lg;have Ns:=hid Lb;clear hi Mq Lg Lb;go_wp2_with fail;go_loopw [61] (λi wr=>∃(k:Nat) (OB:Option Addr) (oc:Nat),k<=l.length/\i=.int .i64 k/\Hid (Bx wr (f.heap.size+1) 163 #[.slice A ws.length c,.slice S L.length K,.slice (some ⟨T,0,none⟩) 16 16,.slice OB (aM (l.take k)).length oc,.map (some f.heap.size)])/\Hid (wr.ownsRow w8.heap.size 55 6 (.slice OB (aM (l.take k)).length oc) (aM (l.take k)).length ((aM (l.take k)).flatMap Bk.cells))/\Hid (wr.ownsMap prog 3 (plainElem prog 4) f.heap.size (aM (l.take k)).length (fD ((aM l).map Bk.at_) (aM (l.take k)).length))/\Hid (PtS wr w.heap.size W3.heap.size W5.heap.size T ws S AW K cW L l)/\w8.heap.size<=wr.heap.size/\Hid (Below w.heap.size w wr)) (λi _=>l.length-(intOf i).toNat)
  case atStart=>exact⟨0,none,0,kqz _,rfl,G8,hid (kq6 _ _ _ _),M8,P8,kqa _,Mb⟩
  obtain⟨k,OB,oc,hk,rfl,G,ON,M,P,Ms,HB⟩:=hrel;have hz:=HB.out.size;by_cases Lo:k<l.length
  .obtain ⟨b,off,rfl,hbb,p0,p1,p2,p3,p4,p5⟩:=RdB.at_ (show RdB wr wr.heap.size AW l from Rd.of_own P.out.b) Lo;have Kw:=hid (tp Lo);have Li:=hid (ID Lo);have Nc:(aM (l.take k)).length<=k:=by unfold aM;have:=kjo (λb:Bk=>b.kind==1) (l.take k);rw[kq4] at this;omega
   obtain⟨x,hx⟩:=xq (l[k]);rw[hx] at p0 p1 p2 p3 p4 p5 Kw Li;obtain⟨D,xs,xk,O,Q,I⟩:=x;dsimp only at p0 p1 p2 p3 p4 p5 Kw Li;obtain⟨LK,Nf⟩:=xq (aM (l.take k));rw[Nf] at G ON M Kw Li Nc;have hki:(k:Int)<(l.length:Int):=by omega
   have hk0:(0:Int)<=(k:Int):=by omega
   obtain⟨ka,Lr,hka2⟩:=No.out k Lo;rw[hx] at Lr;dsimp only at Lr;clear hx Nf;by_cases Lj:xk=1
   .have Kx:Hid (aM (l.take (k+1))=LK++[⟨D,xs,xk,O,Q,I⟩]):=hid (by rw[Kw.out,if_pos Lj]);have HX:=hid (Li.out Lj);have Nq:Hid (fD ((aM l).map Bk.at_) (LK.length+1)=(fD ((aM l).map Bk.at_) LK.length).put (.int .i64 D) (.lit (.bool true))):=hid (by simp only[fD,kxh,HX.out];rfl);have Mt:(Lit.int .i64 D).wf=true:=by simp[Lit.wf,IntKind.min,IntKind.max,IntKind.signed,IntKind.bits];omega
    have HK:=hid (keyOf_int_mk (P:=prog) underlying3 Mt);subst Lj;obtain⟨g0,g1,g2,g3,g4,gf,-⟩:=G.out.c5;have gf3:=gf 3;have hgw:=G.out.lt;have Lm:=hid (ON.out.alloc (.cells #[.int .i64 D,.int .i64 xs,.int .i64 1,.int .i64 O,.bool Q,.int .u64 (I:Int)] 55));have Mf:=hid (G.out.alloc (.cells #[.int .i64 D,.int .i64 xs,.int .i64 1,.int .i64 O,.bool Q,.int .u64 (I:Int)] 55));have Ly:=hid (M.out.alloc (.cells #[.int .i64 D,.int .i64 xs,.int .i64 1,.int .i64 O,.bool Q,.int .u64 (I:Int)] 55));have Mj:=hid (P.out.alloc (.cells #[.int .i64 D,.int .i64 xs,.int .i64 1,.int .i64 O,.bool Q,.int .u64 (I:Int)] 55));have o:=hid (HB.out.alloc hz (.cells #[.int .i64 D,.int .i64 xs,.int .i64 1,.int .i64 O,.bool Q,.int .u64 (I:Int)] 55));have BX1:=hid (Bx.new wr 55 #[.int .i64 D,.int .i64 xs,.int .i64 1,.int .i64 O,.bool Q,.int .u64 (I:Int)]);have Lw:w8.heap.size<=(wr.alloc (.cells #[.int .i64 D,.int .i64 xs,.int .i64 1,.int .i64 O,.bool Q,.int .u64 (I:Int)] 55)).heap.size:=aS Ms;have Lv:=hid Lw;have Mi:=hid (show some wr.heap.size≠(Value.slice OB LK.length oc).ownBlock from λh=>by have:=(ON.out.lt _ h.symm).2;omega);have hmw:=M.out.lt
    have Ln:=cI (wr.alloc (.cells #[.int .i64 D,.int .i64 xs,.int .i64 1,.int .i64 O,.bool Q,.int .u64 (I:Int)] 55)) [.int .i64 D,.int .i64 xs,.int .i64 1,.int .i64 O,.bool Q,.int .u64 (I:Int)] 55;rw[kqm] at Ln;have Ln:=hid Ln;clear Kw Li Mt gf Lr Lw;go_wp2_with (first
     | (at_builtin;refine kzh _ rfl _ _ 48 rfl w8.heap.size 55 i2 _ 6 48 underlying48 HJ.out Ny.out Qc.out Ns.out rfl (by decide) _ _ _ rfl (Lm.out.alloc _) ⟨_,0,none⟩ 1 1 [.int .i64 D,.int .i64 xs,.int .i64 1,.int .i64 O,.bool Q,.int .u64 (I:Int)] rfl rfl Ln.out (by simp[Value.oneCell']) (by unfold maxLen;omega) (by omega) (aS Lv.out) ?_;intro v1 w6 V Z _;obtain⟨OV,oc2,rfl⟩:=aE V;have Lf:=hid (aF o.out o.out.size (am Lm.out Qn) Z);have Md:=hid V;have Nb:=hid ((Mf.out.alloc _).grown Z (bQ ON.out Mw));have Nx:=hid ((Ly.out.alloc _).kept Z (bQ ON.out Mz));have Nu:=hid ((Mj.out.alloc _).late Qa.out Lm.out Z);have BX6:=hid ((BX1.out.alloc _).grown Z Mi.out);have Qm:=kz7 (aS Lv.out) Z.size;obtain⟨d0,d1,d2,d3,d4,df,-⟩:=Nb.out.c5;obtain⟨x0,-,-,-,-,-,-,xlt⟩:=BX6.out.c6;have df3:=df 3;clear V Z df)
     | (at_mapUpdate;refine wpList_mapUpdate_own _ rfl _ _ _ 161 rfl 3 4 oQ underlying161 _ f.heap.size _ _ rfl (Nx.out.setCell (a:=⟨f.heap.size+1,3,none⟩) (by simp) _) (by unfold maxLen;omega) _ _ _ rfl rfl HK.out (.lit (.bool true)) [] (plainElem_bool underlying4 true) ?_;intro w7 Me Lc))
    have Mo:=hid ((Lf.out.setCell (p:=⟨f.heap.size+1,3,none⟩) (by dsimp only;omega) (.slice OV (LK.length+1) oc2)).grown Lc (by rw[kz6];exact Lf.out.size) (λk hk=>by injection hk with hk;omega));have Nl:=hid ((Nb.out.set_ 3 (.slice OV (LK.length+1) oc2)).grown Lc (by simp));have n7:=(bQ Md.out Mw).symm;have Qo:=hid (aN (aw Md.out n7 (.slice OV (LK.length+1) oc2)) Lc (.inr (bQ Md.out Mz).symm));have Nh:=gR P.out.x M.out;have Mu:=gR P.out.s M.out;have Nd:f.heap.size<W3.heap.size:=by have:=Mx.out;omega
    have Ql:=hid ((Nu.out.set_ (p:=⟨f.heap.size+1,3,none⟩) u J (by omega) Qk (.slice OV (LK.length+1) oc2)).grown Lc Nh Mu (.inr (bQ P.out.t.1 Nd).symm) (λy hy=>.inr (bQ (P.out.t.2 y hy) Nd).symm) (.inr (bQ P.out.b (show f.heap.size<W5.heap.size by omega)).symm));have Ls:w8.heap.size<=w7.heap.size:=kz7 Qm (by have:=Lc.size;rw[kz6] at this;exact this);clear Lc Nh Mu n7;go_wp2;go_roundw
    case rel =>
     refine⟨k+1,OV,oc2,by omega,by go_num,?_,?_,?_,Ql,Ls,Mo⟩
     .rw[Kx.out,kqs];exact Nl
     .rw[Kx.out,kqs,kxc];exact Qo
     rw[Kx.out,kqs];refine hid ?_;show w7.ownsMap _ _ _ _ (LK.length+1) (fD _ (LK.length+1));rw[Nq.out];exact Me
    case measure=>simp[intOf];omega
   have Kx:Hid (aM (l.take (k+1))=LK):=hid (by rw[Kw.out,if_neg Lj,kzt]);have e1:(xk==1)=false:=by rw[kqi];exact Lj
   have Lm:=hid (ON.out.alloc (.cells #[.int .i64 D,.int .i64 xs,.int .i64 xk,.int .i64 O,.bool Q,.int .u64 (I:Int)] 55));have Mf:=hid (G.out.alloc (.cells #[.int .i64 D,.int .i64 xs,.int .i64 xk,.int .i64 O,.bool Q,.int .u64 (I:Int)] 55));have Ly:=hid (M.out.alloc (.cells #[.int .i64 D,.int .i64 xs,.int .i64 xk,.int .i64 O,.bool Q,.int .u64 (I:Int)] 55));have Mj:=hid (P.out.alloc (.cells #[.int .i64 D,.int .i64 xs,.int .i64 xk,.int .i64 O,.bool Q,.int .u64 (I:Int)] 55));have o:=hid (HB.out.alloc hz (.cells #[.int .i64 D,.int .i64 xs,.int .i64 xk,.int .i64 O,.bool Q,.int .u64 (I:Int)] 55));have Nv:=hid (show w8.heap.size<=(wr.alloc (.cells #[.int .i64 D,.int .i64 xs,.int .i64 xk,.int .i64 O,.bool Q,.int .u64 (I:Int)] 55)).heap.size from aS Ms);subst Lr;clear Kw Li Lj;go_wp2;go_roundw
   case rel=>exact⟨k+1,OB,oc,by omega,by go_num,by rw[Kx.out];exact Mf,by rw[Kx.out];exact Lm,by rw[Kx.out];exact Ly,Mj,Nv.out,o⟩
   case measure=>simp[intOf];omega
  obtain rfl:k=l.length:=by omega
  rw[kzf] at G ON M;have HG:=hid G.out;obtain⟨g0,g1,g2,g3,g4,-,-⟩:=G.out.c5;go_wp2_with (first
   | ((with_reducible refine aQ 163 (.tmp 7) ?_);refine kxj rfl _ _ rfl (f.heap.size+1) (by rfl) 163 _ (0,0) _ HG.out underlying163 (by rfl) wN ?_)
   | ((with_reducible refine ar 163 (.tmp 2) _ ?_);refine ao rfl _ _ _ rfl w.heap.size 163 #[.slice none 0 0,.slice none 0 0,.slice none 0 0,.slice none 0 0,.map none] #[.slice A ws.length c,.slice S L.length K,.slice (some ⟨T,0,none⟩) 16 16,.slice OB (aM l).length oc,.map (some f.heap.size)] (by rfl) (by rfl) P.out.x rfl Y (by simp[Value.oneCell']) ?_;intro w9 d g;have m:=hid d;have j:=hid g;clear d g))
  refine kqq (v:=.tuple #[.agg #[.slice A ws.length c,.slice S L.length K,.slice (some ⟨T,0,none⟩) 16 16,.slice OB (aM l).length oc,.map (some f.heap.size)],.int .i64 0]) (fI results94 _ m.out rfl rfl rfl) rfl ⟨⟨0,_,rfl,kks _,λh=>absurd rfl h,λ_=>⟨t,l,?_⟩⟩,j.out.below HB.out (kqa _)⟩;have d:=j.out.2.2 w.heap.size (kqa _);have Lq:wr.grownBy w9 (some w.heap.size):=⟨d.os,d.tape,d.output,by rw[j.out.1];exact kqa _,λk hk Qr=>j.out.2.1 k (λe=>Qr (by rw[e]))⟩;have hS:=j.out.bx P.out.s (show T≠w.heap.size by omega);refine⟨HT.out,HL.out,Qe.out,Nw.out,Nz.out,Qb.out,Qi.out,S,some ⟨T,0,none⟩,OB,K,16,oc,f.heap.size,L,rfl,?_,Nn.out,Rd.of_box hS hS.lt,?_,?_⟩
  .exact RdL.of_own (H:=W3.heap.size) ⟨aN P.out.t.1 Lq (.inr (bQ P.out.t.1 Ng).symm),λy hy=>aN (P.out.t.2 y hy) Lq (.inr (bQ (P.out.t.2 y hy) Ng).symm)⟩ rfl
  .exact Rd.of_own (aN ON.out Lq (.inr (bQ ON.out (show w.heap.size<w8.heap.size by omega)).symm))
  exact M.out.kept Lq (gR P.out.x M.out).symm
theorem Cv{t:Nat}{L:List Ty}(hty:ix ws t=true)(hL:L.map Ty.l=gc ws t 8):∀x∈L,di x.l=0/\kSz x.l=bg x.l.length/\x.l.length<=8:=by
 intro x g;have f:x.l∈gc ws t 8:=by rw[<-hL];exact kx6 g
 unfold gc at f;obtain⟨i,k,e⟩:=kzx.1 f;rw[kzi] at k;have a:=(gQ ws t).1 hty i (by omega);unfold Aa at a;rw[if_pos (by omega)] at a;have c:x.l=dJ (wd ws (96+2*i)):=by rw[<-e];unfold bq;rw[if_pos a]
 obtain⟨j,h,-,-⟩:=rK a;have b:x.l.length<=8:=by rw[c,fk];exact j
 have d:di x.l=0:=jX b (by rw[c];exact h);exact⟨d,by unfold kSz;rw[if_pos d],b⟩
section
variable {A TA SA OA:Option Addr} {ws:List Nat} {L:List Ty} {l:List Bk} {c n tc tn sc sn oc mb:Nat} {w:World}
theorem FH(hl:blocks ws 128=some l)(hm:(aM l).length<=1000000)(hO:RdB w w.heap.size OA (aM l)):
 Calls prog 100 #[.agg #[.slice A n c,.slice TA tn tc,.slice SA sn sc,.slice OA (aM l).length oc,.map (some mb)],.func (.func 95) #[.agg #[.slice A n c,.slice TA tn tc,.slice SA sn sc,.slice OA (aM l).length oc,.map (some mb)]] #[]] w λe w'=>e=.returned (.bool ((aM l).all λb=>!wrK ws T (aM l) 7 b))/\Below w.heap.size w w':=by
 refine jD 95 A TA SA OA (aM l) _ c n tc tn sc sn oc (aM l).length mb w rfl hm hO (λ_ _=>by kernel_rfl) (λk h W hb=>?_);obtain⟨a,z,g,d,f,e,-⟩:=ic hl (kqn h);rw[e,lm];have i:wrB ws T (aM l) a z g f d 7=(f||decide (0<d)):=by simp[wrB]
 rw[i];exact Ff A TA SA OA c n tc tn sc sn oc (aM l).length mb a z g d 1 f W
theorem CZ(hl:blocks ws 128=some l)(hm:(aM l).length<=1000000)(ht:L.length=tn)(hk:∀x∈L,di x.l=0/\kSz x.l=bg x.l.length/\x.l.length<=8)(hO:RdB w w.heap.size OA (aM l))(hL:RdL w w.heap.size TA L):
 Calls prog 100 #[.agg #[.slice A n c,.slice TA tn tc,.slice SA sn sc,.slice OA (aM l).length oc,.map (some mb)],.func (.func 96) #[.agg #[.slice A n c,.slice TA tn tc,.slice SA sn sc,.slice OA (aM l).length oc,.map (some mb)]] #[]] w λe w'=>e=.returned (.bool ((aM l).all λb=>!wrK ws (L.map Ty.l) (aM l) 8 b))/\Below w.heap.size w w':=by
 refine jD 96 A TA SA OA (aM l) _ c n tc tn sc sn oc (aM l).length mb w rfl hm hO (λ_ _=>by kernel_rfl) (λk h W f=>?_);obtain⟨a,z,d,g,i,e,-⟩:=ic hl (kqn h);rw[e,lm];have j:(!wrB ws (L.map Ty.l) (aM l) a z d i g 8)=(decide (d<L.length)&&bg (((L.map Ty.l)[d]?).getD []).length==z):=by unfold wrB;rw[if_neg (by decide),if_pos rfl,kzg];cases decide (d<L.length)<;>simp[bne]
 rw[j];exact DY A TA SA OA L c n tc tn sc sn oc (aM l).length mb a z d g 1 i W ht hk (hL.up f f.size)
theorem rq{a z ty nx:Nat}{mk:Bool}(hT:L.map Ty.l=T)(h:wrK ws T O 8 ⟨(a:Int),(z:Int),1,(ty:Int),mk,nx⟩=false):∃h:ty<L.length,z=bg L[ty].l.length/\(T[ty]?).getD []=L[ty].l:=by
 rw[lm] at h;unfold wrB at h;rw[if_neg (by decide),if_pos rfl,kzs,kk2,kqo,kqr,<-hT,kzg] at h;have e:(T[ty]?).getD []=(L[ty]'h.1).l:=by rw[<-hT];simp[h.1]
 refine⟨h.1,?_,e⟩;rw[<-e,<-hT];exact h.2.symm
theorem yM(hl:blocks ws 128=some l)(hm:(aM l).length<=1000000)(hn:ws.length=n)(hn2:n<=2048)(ht:L.length=tn)(hk:∀x∈L,di x.l=0/\kSz x.l=bg x.l.length/\x.l.length<=8)(h8:∀b∈aM l,wrK ws (L.map Ty.l) (aM l) 8 b=false)(hO:RdB w w.heap.size OA (aM l))(hL:RdL w w.heap.size TA L)(hR:RdW w w.heap.size A ws):
 Calls prog 100 #[.agg #[.slice A n c,.slice TA tn tc,.slice SA sn sc,.slice OA (aM l).length oc,.map (some mb)],.func (.func 97) #[.agg #[.slice A n c,.slice TA tn tc,.slice SA sn sc,.slice OA (aM l).length oc,.map (some mb)]] #[]] w λe w'=>e=.returned (.bool ((aM l).all λb=>!wrK ws (L.map Ty.l) (aM l) 9 b))/\Below w.heap.size w w':=by
 refine jD 97 A TA SA OA (aM l) _ c n tc tn sc sn oc (aM l).length mb w rfl hm hO (λ_ _=>by kernel_rfl) (λk h W i=>?_);obtain⟨a,z,g,j,m,e,-,haz,-⟩:=ic hl (kqn h);have d:=h8 _ (kqn h);rw[e] at d |-;obtain⟨f,o,p⟩:=rq rfl d;rw[lm];have q:wrB ws (L.map Ty.l) (aM l) a z g m j 9=(decide (L[g].l.length+2<z)&&wd ws (a+2+L[g].l.length) != 0):=by unfold wrB;rw[if_neg (by decide),if_neg (by decide),if_pos rfl,p]
 rw[q];exact yD A TA SA OA ws L c n tc tn sc sn oc (aM l).length mb a z g j 1 m W hn hn2 ht f (hk _ (kqn f)).2.2 o (by omega) (hR.up i i.size) (hL.up i i.size)
theorem zy(hl:blocks ws 128=some l)(hm:(aM l).length<=1000000)(hn:ws.length=n)(hn2:n<=2048)(ht:L.length=tn)(ho:∀x∈ws,x<18446744073709551616)(hk:∀x∈L,di x.l=0/\kSz x.l=bg x.l.length/\x.l.length<=8)(h8:∀b∈aM l,wrK ws (L.map Ty.l) (aM l) 8 b=false)(hO:RdB w w.heap.size OA (aM l))(hL:RdL w w.heap.size TA L)(hR:RdW w w.heap.size A ws):
 Calls prog 100 #[.agg #[.slice A n c,.slice TA tn tc,.slice SA sn sc,.slice OA (aM l).length oc,.map (some mb)],.func (.func 98) #[.agg #[.slice A n c,.slice TA tn tc,.slice SA sn sc,.slice OA (aM l).length oc,.map (some mb)]] #[]] w λe w'=>e=.returned (.bool ((aM l).all λb=>!wrK ws (L.map Ty.l) (aM l) 10 b))/\Below w.heap.size w w':=by
 refine jD 98 A TA SA OA (aM l) _ c n tc tn sc sn oc (aM l).length mb w rfl hm hO (λ_ _=>by kernel_rfl) (λk h W j=>?_);obtain⟨a,z,g,m,o,e,-,haz,-⟩:=ic hl (kqn h);have d:=h8 _ (kqn h);rw[e] at d |-;obtain⟨f,p,q⟩:=rq rfl d;rw[lm];have r:wrB ws (L.map Ty.l) (aM l) a z g o m 10=((List.range L[g].l.length).any λi=>wrF ws L[g].l (aM l) a 10 i):=by unfold wrB;rw[if_neg (by decide),if_neg (by decide),if_neg (by decide),q]
 rw[r];exact xw A TA SA OA ws L (aM l) c n tc tn sc sn oc (aM l).length mb a z g m 1 o W hn hn2 ht f (hk _ (kqn f)).2.2 p (by omega) (hR.up j j.size) (hL.up j j.size) ho
theorem EX(hl:blocks ws 128=some l)(hm:(aM l).length<=1000000)(hn:ws.length=n)(hn2:n<=2048)(ht:L.length=tn)(ho:∀x∈ws,x<18446744073709551616)(hk:∀x∈L,di x.l=0/\kSz x.l=bg x.l.length/\x.l.length<=8)(h8:∀b∈aM l,wrK ws (L.map Ty.l) (aM l) 8 b=false)(hO:RdB w w.heap.size OA (aM l))(hL:RdL w w.heap.size TA L)(hR:RdW w w.heap.size A ws)(hM:w.ownsMap prog 3 (plainElem prog 4) mb (aM l).length (fD ((aM l).map Bk.at_) (aM l).length)):
 Calls prog 100 #[.agg #[.slice A n c,.slice TA tn tc,.slice SA sn sc,.slice OA (aM l).length oc,.map (some mb)],.func (.func 99) #[.agg #[.slice A n c,.slice TA tn tc,.slice SA sn sc,.slice OA (aM l).length oc,.map (some mb)]] #[]] w λe w'=>e=.returned (.bool ((aM l).all λb=>!wrK ws (L.map Ty.l) (aM l) 11 b))/\Below w.heap.size w w':=by
 refine jD 99 A TA SA OA (aM l) _ c n tc tn sc sn oc (aM l).length mb w rfl hm hO (λ_ _=>by kernel_rfl) (λk h W d=>?_);obtain⟨a,z,j,m,o,e,-,haz,-⟩:=ic hl (kqn h);have f:=h8 _ (kqn h);rw[e] at f |-;obtain⟨g,p,q⟩:=rq rfl f;rw[lm];have r:wrB ws (L.map Ty.l) (aM l) a z j o m 11=((List.range L[j].l.length).any λi=>wrF ws L[j].l (aM l) a 11 i):=by unfold wrB;rw[if_neg (by decide),if_neg (by decide),if_neg (by decide),q]
 rw[r];refine EA A TA SA OA ws L (aM l) c n tc tn sc sn oc (aM l).length mb a z j m 1 o W hn hn2 ht g (hk _ (kqn g)).2.2 p (by omega) (hR.up d d.size) (hL.up d d.size) ho (λb d=>?_) (eB hM (d.block _ hM.lt));obtain⟨t,z',ty',nx',mk',s,-,haz',hz2,-⟩:=ic hl d;rw[s];show (t:Int)<n;omega
end
def Dr (ws:List Nat) (e:Ending):Prop:=∃r:Int,e=.returned (.tuple #[.int .i64 r,.int .i64 (lR ws.length)])/\0<=r/\(ak (ws.length:Int)=true->(r=0↔lay ws=true))
def Kv (ws:List Nat) (T:List (List Nat)) (O:List Bk) (k:Nat):Prop:=∀r,7<=r->r<7+k->∀b∈O,wrK ws T O r b=false
theorem AZ(h:Kv ws T O k)(h1:(O.all λb=>!wrK ws T O (7+k) b)=true):Kv ws T O (k+1):=λr d hr b a=>by
 rcases kq7 r (7+k) with c|c
 .exact h r d c b a
 .have:r=7+k:=by omega
  subst this;have:=kzv.1 h1 b a
  simpa using this
theorem GG(hk:k<5)(h1:(O.all λb=>!wrK ws T O (7+k) b)=false):¬ ∀r,7<=r->r<12->∀b∈O,wrK ws T O r b=false:=λh=>by rw[kzv.2 λb a=>by rw[h (7+k) (by omega) (by omega) b a];rfl] at h1;cases h1
def nz (O:List Bk) (S:List Sl) (k:Nat):Prop:=∀i (h:i<S.length),i<k->jI O S[i]=true
theorem tC{S:List Sl}(hk:k<S.length)(h:nz O S k)(h1:jI O S[k]=true):nz O S (k+1):=λi b hlt=>by
 rcases kq7 i k with a|a
 .exact h i b a
 .have:i=k:=by omega
  subst this;exact h1
theorem zf(A:Option Addr)(ws:List Nat)(c n:Nat)(w:World)(hn:ws.length=n)(hm:n<=9223372036854775807)(hc:n<=c)(hr:RdW w w.heap.size A ws)(ho:∀x∈ws,x<18446744073709551616):
 Calls prog 51 #[.slice A n c] w λe w'=>Dr ws e/\Below w.heap.size w w':=by
 subst hn;have Kw:=hid (aB A ws.length c w hm);cases hs:ak (ws.length:Int)
 .have HE:=hid (bL hs);have J:Hid (Dr ws (.returned (.tuple #[.int .i64 0,.int .i64 8]))):=hid ⟨0,by rw[HE.out],kks _,λh=>by rw[hs] at h;cases h⟩;rw[HE.out] at Kw;clear hs hr ho hm hc;go_enter func51,ntmps51;go_wp2_with fail;refine Kw.out.mono ?_;rintro e w1 ⟨rfl,rfl⟩;go_wp2;go_ret2;exact⟨J.out,kqk _ _⟩
 have HE:=hid (aV hs);have N:=(ab _).1 hs;have Lu:=hid (Cq A ws c ws.length w rfl hs hc hr ho);have X:Hid (∀r:Int,0<r->lay ws=false->Dr ws (.returned (.tuple #[.int .i64 r,.int .i64 0]))):=hid λr h h2=>⟨r,by rw[HE.out],by omega,λ_=>⟨λh3=>by omega,λh3=>by rw[h2] at h3;cases h3⟩⟩;have Ll:Hid (lay ws=true->Dr ws (.returned (.tuple #[.int .i64 0,.int .i64 0]))):=hid λh=>⟨0,by rw[HE.out],kks _,λ_=>⟨λ_=>h,λ_=>rfl⟩⟩;rw[HE.out] at Kw;have HR:=hid hr;have Lo:=hid ho;have hlen:256<=ws.length/\ws.length<=2048:=by omega
 have hi5:(prog.info? 163).map (·.size)=some (#[.slice none 0 0,.slice none 0 0,.slice none 0 0,.slice none 0 0,.map none]:Array Value).size:=wN;unfold PtRes at Lu;clear hs hr ho hm hc N;go_enter func51,ntmps51;go_wp2_with fail;refine Kw.out.mono ?_;rintro e w1 ⟨rfl,rfl⟩;go_wp2_with fail;refine Lu.out.mono ?_;rintro e I ⟨⟨r,sv,rfl,Ly,R,K⟩,La⟩;have Lk:=hid La;have Eq:=La.size;clear La;by_cases h0:r=0
 .subst h0;obtain⟨t,l,P⟩:=K rfl;have PQ:=hid P;obtain⟨d,a,o,B,y,m,z,L,rfl,hL,Lb,hS,hO,hM⟩:=P.mem;have Le:=hid (oI P.ty P.bl);have HK:=hid (Cv P.tys Lb);have Mg:=hid hL;have Mm:=hid hS;have Md:=hid hO;have Mf:=hid hM;have Lx:=hid Lb;have Kz:(aM l).length<=1000000:=by have:=(bK (by omega) _ _ P.bl (by omega) (by omega) (by omega)).1;have:=kjo (λb:Bk=>b.kind==1) l;unfold aM;omega
  have Z:=hid Kz;have Lz:=hM.lt;clear R K P hL Lb hS hO hM Kz Ly;have Lj:((I.alloc (.cells #[.slice A ws.length c,.slice d L.length B,.slice a 16 y,.slice o (aM l).length m,.map (some z)] 163)).alloc (.cells #[.func (.func 95) #[.agg #[.slice A ws.length c,.slice d L.length B,.slice a 16 y,.slice o (aM l).length m,.map (some z)]] #[],.func (.func 96) #[.agg #[.slice A ws.length c,.slice d L.length B,.slice a 16 y,.slice o (aM l).length m,.map (some z)]] #[],.func (.func 97) #[.agg #[.slice A ws.length c,.slice d L.length B,.slice a 16 y,.slice o (aM l).length m,.map (some z)]] #[],.func (.func 98) #[.agg #[.slice A ws.length c,.slice d L.length B,.slice a 16 y,.slice o (aM l).length m,.map (some z)]] #[],.func (.func 99) #[.agg #[.slice A ws.length c,.slice d L.length B,.slice a 16 y,.slice o (aM l).length m,.map (some z)]] #[]] 166)).heap.size=I.heap.size+1+1:=by simp
  have b24:=((kqk I.heap.size I).alloc (kqa _) (.cells #[.slice A ws.length c,.slice d L.length B,.slice a 16 y,.slice o (aM l).length m,.map (some z)] 163)).alloc (by simp) (.cells #[.func (.func 95) #[.agg #[.slice A ws.length c,.slice d L.length B,.slice a 16 y,.slice o (aM l).length m,.map (some z)]] #[],.func (.func 96) #[.agg #[.slice A ws.length c,.slice d L.length B,.slice a 16 y,.slice o (aM l).length m,.map (some z)]] #[],.func (.func 97) #[.agg #[.slice A ws.length c,.slice d L.length B,.slice a 16 y,.slice o (aM l).length m,.map (some z)]] #[],.func (.func 98) #[.agg #[.slice A ws.length c,.slice d L.length B,.slice a 16 y,.slice o (aM l).length m,.map (some z)]] #[],.func (.func 99) #[.agg #[.slice A ws.length c,.slice d L.length B,.slice a 16 y,.slice o (aM l).length m,.map (some z)]] #[]] 166)
  have BX4:=(Bx.new I 163 #[.slice A ws.length c,.slice d L.length B,.slice a 16 y,.slice o (aM l).length m,.map (some z)]).alloc (.cells #[.func (.func 95) #[.agg #[.slice A ws.length c,.slice d L.length B,.slice a 16 y,.slice o (aM l).length m,.map (some z)]] #[],.func (.func 96) #[.agg #[.slice A ws.length c,.slice d L.length B,.slice a 16 y,.slice o (aM l).length m,.map (some z)]] #[],.func (.func 97) #[.agg #[.slice A ws.length c,.slice d L.length B,.slice a 16 y,.slice o (aM l).length m,.map (some z)]] #[],.func (.func 98) #[.agg #[.slice A ws.length c,.slice d L.length B,.slice a 16 y,.slice o (aM l).length m,.map (some z)]] #[],.func (.func 99) #[.agg #[.slice A ws.length c,.slice d L.length B,.slice a 16 y,.slice o (aM l).length m,.map (some z)]] #[]] 166)
  have BF4:=Bx.new (I.alloc (.cells #[.slice A ws.length c,.slice d L.length B,.slice a 16 y,.slice o (aM l).length m,.map (some z)] 163)) 166 #[.func (.func 95) #[.agg #[.slice A ws.length c,.slice d L.length B,.slice a 16 y,.slice o (aM l).length m,.map (some z)]] #[],.func (.func 96) #[.agg #[.slice A ws.length c,.slice d L.length B,.slice a 16 y,.slice o (aM l).length m,.map (some z)]] #[],.func (.func 97) #[.agg #[.slice A ws.length c,.slice d L.length B,.slice a 16 y,.slice o (aM l).length m,.map (some z)]] #[],.func (.func 98) #[.agg #[.slice A ws.length c,.slice d L.length B,.slice a 16 y,.slice o (aM l).length m,.map (some z)]] #[],.func (.func 99) #[.agg #[.slice A ws.length c,.slice d L.length B,.slice a 16 y,.slice o (aM l).length m,.map (some z)]] #[]];rw[kqm] at BF4;have C:=hid (λW (N:Below I.heap.size I W)=>(And.intro (Md.out.up N N.size) (And.intro (Mg.out.up N N.size) (And.intro (Mm.out.up N N.size) (eB Mf.out (N.block _ Lz))))));go_wp2_with fail
  obtain⟨M,Lm⟩:=xq ((I.alloc (.cells #[.slice A ws.length c,.slice d L.length B,.slice a 16 y,.slice o (aM l).length m,.map (some z)] 163)).alloc (.cells #[.func (.func 95) #[.agg #[.slice A ws.length c,.slice d L.length B,.slice a 16 y,.slice o (aM l).length m,.map (some z)]] #[],.func (.func 96) #[.agg #[.slice A ws.length c,.slice d L.length B,.slice a 16 y,.slice o (aM l).length m,.map (some z)]] #[],.func (.func 97) #[.agg #[.slice A ws.length c,.slice d L.length B,.slice a 16 y,.slice o (aM l).length m,.map (some z)]] #[],.func (.func 98) #[.agg #[.slice A ws.length c,.slice d L.length B,.slice a 16 y,.slice o (aM l).length m,.map (some z)]] #[],.func (.func 99) #[.agg #[.slice A ws.length c,.slice d L.length B,.slice a 16 y,.slice o (aM l).length m,.map (some z)]] #[]] 166));rw[Lm] at Lj b24 BX4 BF4 |-;have E:=hid b24;have Q:=hid (Lk.out.trans (b24.mono Eq));have BX:=hid BX4;have BF:=hid BF4;have HS4:=hid Lj
  have Mq:Hid (∀k,k<5->Kv ws (gc ws t 8) (aM l) k->∃f,(#[.func (.func 95) #[.agg #[.slice A ws.length c,.slice d L.length B,.slice a 16 y,.slice o (aM l).length m,.map (some z)]] #[],.func (.func 96) #[.agg #[.slice A ws.length c,.slice d L.length B,.slice a 16 y,.slice o (aM l).length m,.map (some z)]] #[],.func (.func 97) #[.agg #[.slice A ws.length c,.slice d L.length B,.slice a 16 y,.slice o (aM l).length m,.map (some z)]] #[],.func (.func 98) #[.agg #[.slice A ws.length c,.slice d L.length B,.slice a 16 y,.slice o (aM l).length m,.map (some z)]] #[],.func (.func 99) #[.agg #[.slice A ws.length c,.slice d L.length B,.slice a 16 y,.slice o (aM l).length m,.map (some z)]] #[]]:Array Value)[k]? = some f/\∀W,Below M.heap.size M W->Calls prog 100 #[.agg #[.slice A ws.length c,.slice d L.length B,.slice a 16 y,.slice o (aM l).length m,.map (some z)],f] W λe w'=>e=.returned (.bool ((aM l).all λb=>!wrK ws (gc ws t 8) (aM l) (7+k) b))/\Below W.heap.size W w'):=hid λk hk Ls=>by
   have hP:=PQ.out;have F:∀W,Below M.heap.size M W->Below I.heap.size I W:=λW D=>E.out.trans (D.mono E.out.size);rw[<-Lx.out] at Ls |-;have Ld:=λW (D:Below M.heap.size M W)=>HR.out.up (Lk.out.trans ((F W D).mono Eq)) (kz7 Eq (F W D).size);have h8:2<=k->∀b∈aM l,wrK ws (L.map Ty.l) (aM l) 8 b=false:=λh b N=>Ls 8 (by omega) (by omega) b N;rcases (show k=0\/k=1\/k=2\/k=3\/k=4 by omega) with rfl|rfl|rfl|rfl|rfl
   .exact ⟨_,rfl,λW D=>FH hP.bl Z.out (C.out W (F W D)).1⟩
   .exact ⟨_,rfl,λW D=>CZ hP.bl Z.out rfl HK.out (C.out W (F W D)).1 (C.out W (F W D)).2.1⟩
   .exact ⟨_,rfl,λW D=>yM hP.bl Z.out rfl (by omega) rfl HK.out (h8 (by omega)) (C.out W (F W D)).1 (C.out W (F W D)).2.1 (Ld W D)⟩
   .exact ⟨_,rfl,λW D=>zy hP.bl Z.out rfl (by omega) rfl Lo.out HK.out (h8 (by omega)) (C.out W (F W D)).1 (C.out W (F W D)).2.1 (Ld W D)⟩
   exact⟨_,rfl,λW D=>EX hP.bl Z.out rfl (by omega) rfl Lo.out HK.out (h8 (by omega)) (C.out W (F W D)).1 (C.out W (F W D)).2.1 (Ld W D) (C.out W (F W D)).2.2.2⟩
  have Mb:Hid (Kv ws (gc ws t 8) (aM l) 0):=hid λr h1 h2=>by omega
  have Ml:=hid (λk h h1=>AZ (ws:=ws) (T:=gc ws t 8) (O:=aM l) (k:=k) h h1);have Me:=hid (λk h h1=>GG (ws:=ws) (T:=gc ws t 8) (O:=aM l) (k:=k) h h1);have Mj:I.heap.size+1<M.heap.size:=by omega
  have Lg:I.heap.size<M.heap.size:=by omega
  clear Lm Lj b24 BX4 BF4;go_loopw [36] (λi wr=>∃k:Nat,k<=5/\i=.int .i64 k/\Hid (Kv ws (gc ws t 8) (aM l) k)/\Below M.heap.size M wr) (λi _=>5-(intOf i).toNat)
  case atStart=>exact⟨0,by omega,rfl,Mb,kqk _ _⟩
  obtain⟨k,hk,rfl,HT,G⟩:=hrel;by_cases H:k<5
  .obtain ⟨f,hf,hC⟩:=Mq.out k H HT.out;have hc0:=(G.cell (p:=⟨I.heap.size+1,k,none⟩) Mj).trans ((BF.out.cell k).trans hf);have HC:=hid (hC wr G);have Lr:=hid (Ml.out k HT.out);have Lp:=hid (Me.out k H);obtain⟨q,hq⟩:=xq (((aM l).all λb=>!wrK ws (gc ws t 8) (aM l) (7+k) b));rw[hq] at HC Lr Lp;obtain⟨q0,q1,q2,q3,q4,-,-⟩:=(BX.out.up G Lg).c5;have Kx:=hid G;have hz:=G.size;have hki:(k:Int)<5:=by omega
   have hk0:(0:Int)<=(k:Int):=by omega
   clear hf hC hq G;cases q
   .have J:=hid (X.out (7+k) (by omega) (by
     cases hq:lay ws with
     | false=>rfl
     | true=>exact absurd (Le.out.1 hq).2.2.2.2.2.1 (Lp.out rfl)))
    go_wp2_with fail;refine HC.out.mono ?_;rintro e w5 ⟨rfl,U⟩;have Lc:=hid (Q.out.trans ((Kx.out.trans (U.mono hz)).mono Q.out.size));clear U;go_wp2;go_ret2;exact⟨J.out,Lc.out⟩
   have J:=hid (Lr.out rfl);go_wp2_with fail;refine HC.out.mono ?_;rintro e w5 ⟨rfl,U⟩;have Lc:=hid (Kx.out.trans (U.mono hz));clear U;go_wp2;go_roundw
   case rel=>exact⟨k+1,by omega,by go_num,J,Lc.out⟩
   case measure=>simp[intOf];omega
  have Mi:=hid (show Kv ws (gc ws t 8) (aM l) 5 from λr h1 h2 b N=>HT.out r h1 (by omega) b N);have Ky:decide ((k:Int)<5)=false:=by rw[kqh];omega
  have V:decide (k<5)=false:=by rw[kqh];exact H
  obtain⟨-,-,q2,-,-,-,-⟩:=(BX.out.up G Lg).c5;have Kx:=hid G;clear H hk HT G;go_wp2_with fail;have Lw:Hid (nz (aM l) (slL ws) 0):=hid λi h h1=>by omega
  have Mn:=hid (λk hk h h1=>tC (O:=aM l) (S:=slL ws) (k:=k) hk h h1);have Lq:=hid (fA ws);have Mc:Hid (nz (aM l) (slL ws) 16->lay ws=true):=hid λh=>Le.out.2 ⟨PQ.out.z1,PQ.out.z2,PQ.out.tys,PQ.out.sls,PQ.out.adj,Mi.out,λs hs=>by
   obtain⟨i,hi,rfl⟩:=kq0 hs;exact h i hi (by rw[Lq.out] at hi;exact hi)⟩
  have Ma:Hid (∀k (hk:k<(slL ws).length),jI (aM l) (slL ws)[k]=false->lay ws=false):=hid λk hk h=>by
   cases hq:lay ws with
   | false=>rfl
   | true=>rw[(Le.out.1 hq).2.2.2.2.2.2 _ (kqn hk)] at h;cases h
  have Mp:Hid (∀k (hk:k<(slL ws).length),∃g v:Nat,(slL ws)[k]=⟨(g:Int),(slL ws)[k].used,(v:Int)⟩/\v<4294967296):=hid λk hk=>by
   rw[nY ws hk];exact⟨_,_,rfl,kz0 _ (by decide)⟩
  clear Ky V q2;go_loopw [51] (λi wr=>∃k:Nat,k<=16/\i=.int .i64 k/\Hid (nz (aM l) (slL ws) k)/\Below M.heap.size M wr) (λi _=>16-(intOf i).toNat)
  case atStart=>exact⟨0,by omega,rfl,Lw,Kx.out⟩
  obtain⟨j,hj,rfl,HT,G⟩:=hrel;by_cases H:j<16
  .have Y:j<(slL ws).length:=by rw[Lq.out];exact H
   obtain⟨bS,oS,rfl,hbS,p0,p1,p2⟩:=RdS.at_ (show RdS wr wr.heap.size a (slL ws) from (C.out wr (E.out.trans (G.mono E.out.size))).2.2.1) Y;obtain⟨g,v,hx,hv⟩:=Mp.out j Y;have Lf:=hid (Mn.out j Y HT.out);have Lt:=hid (Ma.out j Y);obtain⟨x,Lv⟩:=xq ((slL ws)[j]);rw[Lv] at p0 p1 p2 hx Lf Lt;obtain⟨u,hu⟩:=xq x.used;rw[hu] at p1 hx;subst hx;dsimp only at p0 p2;have hjj:(j:Int)<16:=by omega
   have hj0:(0:Int)<=(j:Int):=by omega
   obtain⟨-,-,-,-,q4,-,-⟩:=(BX.out.up G Lg).c5;have hgw:I.heap.size<wr.heap.size:=by have:=G.size;omega
   have hz:=G.size;have Li:=hid (G.alloc hz (.cells #[.int .i64 (g:Int),.bool u,.int .i64 (v:Int)] 52));have Mo:=hid ((C.out wr (E.out.trans (G.mono E.out.size))).2.2.2.alloc (.cells #[.int .i64 (g:Int),.bool u,.int .i64 (v:Int)] 52));clear Lv hu Y G;cases u
   .have J:=hid (Lf.out rfl);go_wp2;go_roundw
    case rel=>exact⟨j+1,by omega,by go_num,J,Li.out⟩
    case measure=>simp[intOf];omega
   have Ln:(Lit.int .i64 (v:Int)).wf=true:=by simp[Lit.wf,IntKind.min,IntKind.max,IntKind.signed,IntKind.bits];omega
   have Mh:=je Mo.out oQ underlying161 underlying4 (nf _) (keyOf_int_mk (P:=prog) underlying3 Ln) (c:=mZ (aM l) v) (by rw[nR,wT]);have Lh:Hid (jI (aM l) ⟨(g:Int),true,(v:Int)⟩=mZ (aM l) v):=hid (by unfold jI;simp);obtain⟨q,hq⟩:=xq (mZ (aM l) v);rw[hq] at Mh Lh;clear Ln hq hv;cases q
   .have J:=hid (X.out 12 (by decide) (Lt.out Lh.out));go_wp2;go_ret2;exact⟨J.out,Q.out.trans (Li.out.mono Q.out.size)⟩
   have J:=hid (Lf.out Lh.out);go_wp2;go_roundw
   case rel=>exact⟨j+1,by omega,by go_num,J,Li.out⟩
   case measure=>simp[intOf];omega
  have Ky:decide ((j:Int)<16)=false:=by rw[kqh];omega
  have V:decide (j<16)=false:=by rw[kqh];exact H
  have J:=hid (Ll.out (Mc.out (by have:=HT.out;rwa [show j=16 by omega] at this)));clear H hj HT;go_wp2;go_ret2;exact⟨J.out,Q.out.trans (G.mono Q.out.size)⟩
 obtain⟨hl,rfl⟩:=R h0;have J:=hid (X.out r (by omega) hl);have e1:(r != 0)=true:=by rw[kqv];exact h0
 clear R K;go_wp2;go_ret2;exact⟨J.out,Lk.out.alloc Eq _⟩
theorem rP(A:Option Addr)(ws:List Nat)(c n:Nat)(w:World)(hn:ws.length=n)(hm:n<=9223372036854775807)(hc:n<=c)(hr:RdW w w.heap.size A ws)(ho:∀x∈ws,x<18446744073709551616):
 Calls prog 16 #[.slice A n c] w λe w'=>e=.returned (.int .i64 (bT ws))/\Below w.heap.size w w':=by
 subst hn;have f:=hid (zf A ws c ws.length w rfl hm hc hr ho);unfold Dr at f;clear hr ho hc hm;cases d:ak (ws.length:Int)
 .have g:Hid (bT ws=8):=hid (by unfold bT;rw[d];rfl);rw[bL d] at f;clear d;go_enter func16,ntmps16;go_wp2_with fail;refine f.out.mono ?_;rintro e k ⟨⟨r,rfl,-,-⟩,a⟩;go_wp2;go_ret;exact⟨by rw[g.out];rfl,a⟩
 have g:Hid (bT ws=if lay ws=true then 0 else 50):=hid (by unfold bT;rw[d];rfl);rw[aV d] at f;have l:=hid d;clear d;go_enter func16,ntmps16;go_wp2_with fail;refine f.out.mono ?_;rintro e k ⟨⟨r,rfl,o,j⟩,a⟩;have i:=hid (j l.out);clear j;by_cases b:r=0
 .have h:=hid (i.out.1 b);subst b;go_wp2;go_ret;exact⟨by rw[g.out,h.out];rfl,a⟩
 have h:Hid (lay ws=false):=hid (by
  cases m:lay ws with
  | false=>rfl
  | true=>exact absurd (i.out.2 m) b)
 have d1:decide ((0:Int)<r)=true:=by rw[kqo];omega
 clear b o;go_wp2;go_ret;exact⟨by rw[g.out,h.out];rfl,a⟩
end Go.Proofs.YtpcajamacpbjcaaGreat
