/- Texts laid together: LyE LyF LyG LyH. -/
import Derived.Test.YtpcajamacpbjcaaGreatZKLy1
import Derived.Test.YtpcajamacpbjcaaGreatZKCp2
import Derived.Laws.EntriesVeiled
set_option maxHeartbeats 16000000
set_option maxRecDepth 100000
set_option linter.all false
namespace Go.Proofs.YtpcajamacpbjcaaGreat
open Lib (hid)
open Go.RowKit Go.Maps
variable {T:List (List Nat)}{O:List Bk}{ws:List Nat}{k:Nat}
open Go.Proofs.Tryz
theorem iO(f:FuncId)(A TA SA OA:Option Addr)(O:List Bk)(p:Bk->Bool)(c n tc tn sc sn oc on mb:Nat)(w:World)(ho:O.length=on)(hm:on<=1000000)(hO:RdB w w.heap.size OA O)(hcf:∀args W,(callFunc f args).run prog W=.ok (.enter f args) W)(HF:∀k (h:k<O.length) W,Below w.heap.size w W->Calls prog f #[.agg #[.slice A n c,.slice TA tn tc,.slice SA sn sc,.slice OA on oc,.map (some mb)],O[k].val] W λe w'=>e=.returned (.bool (p O[k]))/\Below W.heap.size W w'):
 Calls prog 100 #[.agg #[.slice A n c,.slice TA tn tc,.slice SA sn sc,.slice OA on oc,.map (some mb)],.func (.func f) #[.agg #[.slice A n c,.slice TA tn tc,.slice SA sn sc,.slice OA on oc,.map (some mb)]] #[]] w λe w'=>e=.returned (.bool (O.all p))/\Below w.heap.size w w':=by
 subst ho;have F:=hid (Bx.new w 163 #[.slice A n c,.slice TA tn tc,.slice SA sn sc,.slice OA O.length oc,.map (some mb)]);have I:=hid ((kql w.heap.size w).alloc (kqg _) (.cells #[.slice A n c,.slice TA tn tc,.slice SA sn sc,.slice OA O.length oc,.map (some mb)] 163));have Z:=hid hO;have E:=hid HF;have v:=hid hcf;have X:Hid ((∀j (h:j<O.length),p O[j]=true)->O.all p=true):=hid λh=>kzq.2 λx y=>by
  obtain⟨j,o,rfl⟩:=kqu y;exact h j o
 have R:Hid (∀j (h:j<O.length),p O[j]=false->O.all p=false):=hid λj o h=>by
  cases B:O.all p with
  | false=>rfl
  | true=>rw[kzq.1 B _ (kqm o)] at h;cases h
 obtain⟨G,r⟩:=xq (w.alloc (.cells #[.slice A n c,.slice TA tn tc,.slice SA sn sc,.slice OA O.length oc,.map (some mb)] 163));have C:=hid (show Below w.heap.size w G by rw[<-r];exact I.out);rw[r] at F;obtain⟨q0,q1,q2,q3,q4,-,-⟩:=F.out.c5;clear hO HF F I hcf;go_enter func100,ntmps100;go_wp2_with fail;clear r;go_loopw [10] (λi wr=>∃k:Nat,k<=O.length/\i=.int .i64 k/\Hid (∀j (h:j<O.length),j<k->p O[j]=true)/\Below w.heap.size w wr) (λi _=>O.length-(intOf i).toNat)
 case atStart=>exact⟨0,kqy _,rfl,hid λj _ h=>absurd h (by omega),C.out⟩
 obtain⟨k,hk,rfl,P,z⟩:=hrel;have hz:=z.size;by_cases d:k<O.length
 .obtain ⟨b,off,rfl,hb,N,M,H,J,L,Q⟩:=RdB.at_ (Rd.below Z.out z) d;have u:=hid (E.out k d);have l:Hid (p O[k]=true->∀j (h:j<O.length),j<k+1->p O[j]=true):=hid λU j o h=>by
   rcases kq9 j k with K|K
   .exact P.out j o K
   have:j=k:=by omega
   subst this;exact U
  have s:=hid (R.out k d);obtain⟨x,y⟩:=xq (O[k]);rw[y] at N M H J L Q u l s;obtain⟨q,B⟩:=xq (p x);rw[B] at u l s;obtain⟨V,xs,T,xt,S,Y⟩:=x;dsimp only[Bk.val] at N M H J L Q u;have hki:(k:Int)<(O.length:Int):=by omega
  have hk0:(0:Int)<=(k:Int):=by omega
  have a:=hid (z.alloc hz (.cells #[.int .i64 V,.int .i64 xs,.int .i64 T,.int .i64 xt,.bool S,.int .u64 (Y:Int)] 55));clear y B hb;cases q
  .have t:=hid (s.out rfl);go_wp2_with fail;rw[v.out];simp only[Oper.upon];refine (u.out _ a.out).mono ?_;rintro e w5 ⟨rfl,g⟩;have m:=hid (a.out.trans (g.mono a.out.size));clear g;go_wp2;go_ret;exact⟨by rw[t.out];rfl,m.out⟩
  have t:=hid (l.out rfl);go_wp2_with fail;rw[v.out];simp only[Oper.upon];refine (u.out _ a.out).mono ?_;rintro e w5 ⟨rfl,g⟩;have m:=hid (a.out.trans (g.mono a.out.size));clear g;go_wp2;go_roundw
  case rel=>exact⟨k+1,by omega,by go_num,t,m.out⟩
  case measure=>simp[intOf];omega
 have D:k=O.length:=by omega
 have t:=hid (X.out λj o=>P.out j o (by omega));have hend:decide ((k:Int)<(O.length:Int))=false:=by rw[kqh];omega
 have hendn:decide (k<O.length)=false:=by rw[kqh];exact d
 clear D d hk;go_wp2;go_ret;exact⟨by rw[t.out];rfl,z⟩
theorem tU:(prog.info? 163).map (·.size)=some 5:=by kernel_rfl
theorem zeroSg(w:World):(zeroValue 163).run prog w=.ok (.agg #[.slice none 0 0,.slice none 0 0,.slice none 0 0,.slice none 0 0,.map none]) w:=by kernel_rfl
theorem eM{fn:Func}{p q:Tmp}(h:fn.results=#[.cell p 163,.tmp q])(tmps:Array Value){W:World}{g:Nat}{t:TypeId}{cs:Array Value}{u:Value}(hb:Bx W g t cs)(hs:cs.size=5)(hp:tmps.getD p undef=.pointer (some ⟨g,0,none⟩))(hq:tmps.getD q undef=u):
 (results fn tmps).run prog W=.ok (.tuple #[.agg cs,u]) W:=by
 have a:tmps[p]?.getD undef=.pointer (some ⟨g,0,none⟩):=by simpa using hp
 have b:tmps[q]?.getD undef=u:=by simpa using hq
 have c:(prog.info? 163).map (·.size)=some cs.size:=by rw[hs];exact tU
 have d:=run_loadVar_row W g t 163 cs (0,0) _ hb underlying163 rfl c;simp[results,h,a,b,asAddr,d]
structure PtOk (ws:List Nat) (A:Option Addr) (n c:Nat) (w':World) (sv:Array Value) (t:Nat) (l:List Bk):Prop where
 ty:tyN ws=some t
 bl:blocks ws 128=some l
 z1:eD ws 16=true
 z2:eD ws 24=true
 tys:ga ws t=true
 sls:slsOk ws=true
 adj:js l=true
 mem:∃(TA SA OA:Option Addr) (tc sc oc mb:Nat) (L:List Ty),sv=#[.slice A n c,.slice TA L.length tc,.slice SA 16 sc,.slice OA (objs l).length oc,.map (some mb)]/\RdL w' w'.heap.size TA L/\L.map Ty.l=eB ws t 8/\RdS w' w'.heap.size SA (slL ws)/\RdB w' w'.heap.size OA (objs l)/\w'.ownsMap prog 3 (plainElem prog 4) mb (objs l).length (gH ((objs l).map Bk.at_) (objs l).length)
def PtRes (ws:List Nat) (A:Option Addr) (n c:Nat) (e:Ending) (w':World):Prop:=∃(r:Int) (sv:Array Value),e=.returned (.tuple #[.agg sv,.int .i64 r])/\0<=r/\(r≠0->lay ws=false/\sv=#[.slice none 0 0,.slice none 0 0,.slice none 0 0,.slice none 0 0,.map none])/\(r=0->∃t l,PtOk ws A n c w' sv t l)
def yE (H:Nat) (ws:List Nat) (e:Ending) (w':World):Prop:=(db ws=0->∃g,e=.returned (.tuple #[.slice (some ⟨g,0,none⟩) 16 16,.int .i64 (db ws)])/\H<=g/\Bx w' g 118 ((slL ws).flatMap Sl.cells).toArray)/\(db ws≠0->e=.returned (.tuple #[.slice none 0 0,.int .i64 (db ws)]))
theorem Bw(A:Option Addr)(ws:List Nat)(c n:Nat)(w:World)(hn:ws.length=n)(hm:n<=9223372036854775807)(t:RdW w w.heap.size A ws)(ho:∀x∈ws,x<18446744073709551616):
 Calls prog 25 #[.slice A n c] w λe w'=>yE w.heap.size ws e w'/\Below w.heap.size w w':=by
 have k:=hid (BH A ws c n w hn hm t ho);clear t ho hn hm;have p:=fC;by_cases i:db ws=0
 .have d:ew ws=slL ws:=by simp[ew,i]
  have H:=hid (And.intro i d);have K:=eg ws;rw[i,FX i] at k;have b:(gE (slL ws)).size=48:=by rw[gv,eg]
  obtain⟨l,o⟩:=xq (slL ws);have E:=hid o;rw[o] at b k K H;have v:Hid (gE l=(l.flatMap Sl.cells).toArray):=hid rfl;have I:=hid (kB l);obtain⟨cs,C⟩:=xq (gE l);rw[C] at k b v I;have q:(prog.info? 118).map (·.size)=some cs.size:=by rw[b];exact jP
  clear i d o C K p;go_enter func25,ntmps25;go_wp2_with fail;refine k.out.mono ?_;rintro e u ⟨rfl,a⟩;have G:=nb;have D:cs.size=bC.size:=by rw[b,fC]
  have z:=Bx.new u 118 bC;have F:=hid z;have m:=hid (a.alloc a.size (.cells bC 118));have j:=a.size;clear z a;go_wp2_with (first
   | ((with_reducible refine bt 118 (.tmp 4) _ ?_);refine am rfl _ _ _ rfl u.heap.size 118 bC cs (by rfl) (by rfl) F.out D q I.out ?_;intro M f g;have B:=hid f;have s:=hid (g.below m.out j);clear f g))
  go_ret2;refine⟨⟨λ_=>⟨u.heap.size,by rw[H.out.1];rfl,j,?_⟩,λh=>absurd H.out.1 h⟩,s.out⟩;have:=B.out;rw[v.out] at this;rw[E.out];exact this
 have d:ew ws=[]:=by simp[ew,i]
 rw[ED i] at k;obtain⟨r,t⟩:=xq (db ws);have J:=hid t;rw[t] at k i;have L:=hid i;have hrn:(r != 0)=true:=by rw[kqt];exact i
 have j:=hid ld;have q:(prog.info? 118).map (·.size)=some bC.size:=by rw[p];exact jP
 clear i d t p;go_enter func25,ntmps25;go_wp2_with fail;refine k.out.mono ?_;rintro e u ⟨rfl,a⟩;have G:=nb;have z:=Bx.new u 118 bC;have F:=hid z;have m:=hid (a.alloc a.size (.cells bC 118));have y:=a.size;clear z a;go_wp2_with (first
  | ((with_reducible refine bt 118 (.tmp 4) _ ?_);refine am rfl _ _ _ rfl u.heap.size 118 bC bC (by rfl) (by rfl) F.out rfl q j.out ?_;intro M f g;have B:=hid f;have s:=hid (g.below m.out y);clear f g))
 go_ret2;exact⟨⟨λh=>absurd (J.out.symm.trans h) L.out,λ_=>by rw[J.out];rfl⟩,s.out⟩
structure PtS (wr:World) (H0 H3 H7 gs:Nat) (ws:List Nat) (TB AW:Option Addr) (td cW:Nat) (L:List Ty) (l:List Bk):Prop where
 x:Bx wr H0 163 #[.slice none 0 0,.slice none 0 0,.slice none 0 0,.slice none 0 0,.map none]
 t:km wr H3 (.slice TB L.length td) L
 s:Bx wr gs 118 ((slL ws).flatMap Sl.cells).toArray
 b:wr.ownsRow H7 55 6 (.slice AW l.length cW) l.length (l.flatMap Bk.cells)
section
variable {wr wr':World} {H0 H3 H7 gs:Nat} {ws:List Nat} {TB AW:Option Addr} {td cW:Nat} {L:List Ty} {l:List Bk}
theorem PtS.alloc(h:PtS wr H0 H3 H7 gs ws TB AW td cW L l)(o:Obj):PtS (wr.alloc o) H0 H3 H7 gs ws TB AW td cW L l:=
 ⟨h.x.alloc o,⟨h.t.1.alloc o,λy a=>(h.t.2 y a).alloc o⟩,h.s.alloc o,h.b.alloc o⟩
theorem PtS.set_(h:PtS wr H0 H3 H7 gs ws TB AW td cW L l){p:Addr}(h0:H0≠p.block)(h3:p.block<H3)(h37:H3<=H7)(hg:H7<=gs)(u:Value):PtS (wr.setCell p u) H0 H3 H7 gs ws TB AW td cW L l:=
 ⟨h.x.far h0 u,⟨ar h.t.1 (aY h.t.1 h3).symm u,λy a=>ar (h.t.2 y a) (aY (h.t.2 y a) h3).symm u⟩,h.s.far (by omega) u,ar h.b (aY h.b (by omega)).symm u⟩
theorem PtS.grown(h:PtS wr H0 H3 H7 gs ws TB AW td cW L l){row:Option Nat}(hg:wr.grownBy wr' row)(h0:some H0≠row)(hgs:some gs≠row)(h1:(Value.slice TB L.length td).ownBlock=none\/(Value.slice TB L.length td).ownBlock≠row)(h2:∀y∈L,(Value.slice y.A y.l.length y.c).ownBlock=none\/(Value.slice y.A y.l.length y.c).ownBlock≠row)(h3:(Value.slice AW l.length cW).ownBlock=none\/(Value.slice AW l.length cW).ownBlock≠row):PtS wr' H0 H3 H7 gs ws TB AW td cW L l:=
 ⟨h.x.grown hg h0,⟨aU h.t.1 hg h1,λy a=>aU (h.t.2 y a) hg (h2 y a)⟩,h.s.grown hg hgs,aU h.b hg h3⟩
def ptBk (B H0 gs:Nat) (TB AW:Option Addr) (td cW:Nat) (L:List Ty) (l:List Bk):Prop:=∀r,B<=r->H0≠r/\gs≠r/\(Value.slice TB L.length td).ownBlock≠some r/\(∀y∈L,(Value.slice y.A y.l.length y.c).ownBlock≠some r)/\(Value.slice AW l.length cW).ownBlock≠some r
theorem PtS.bk(h:PtS wr H0 H3 H7 gs ws TB AW td cW L l):ptBk wr.heap.size H0 gs TB AW td cW L l:=λr hr=>by
 refine⟨by have:=h.x.lt;omega,by have:=h.s.lt;omega,λe=>?_,λy a e=>?_,λe=>?_⟩
 .have:=(h.t.1.lt r e).2;omega
 .have:=((h.t.2 y a).lt r e).2;omega
 .have:=(h.b.lt r e).2;omega
theorem PtS.late(h:PtS wr H0 H3 H7 gs ws TB AW td cW L l){B:Nat}(hk:ptBk B H0 gs TB AW td cW L l){n:Nat}{v:Value}{xs:List Value}{e:TypeId}{sz:Nat}{wa:World}(hown:wa.ownsRow B e sz v n xs)(hg:wr.grownBy wr' v.ownBlock):PtS wr' H0 H3 H7 gs ws TB AW td cW L l:=by
 cases a:v.ownBlock with
 | none=>exact h.grown hg (by rw[a];simp) (by rw[a];simp) (by rw[a];exact Classical.em _) (λy _=>by rw[a];exact Classical.em _) (by rw[a];exact Classical.em _)
 | some r =>obtain⟨f,c,b,i,g⟩:=hk r (hown.lt r a).1;exact h.grown hg (by rw[a];simpa using f) (by rw[a];simpa using c) (.inr (by rw[a];exact b)) (λy d=>.inr (by rw[a];exact i y d)) (.inr (by rw[a];exact g))
end
theorem zN{l:List Bk}(hk:k<l.length)(h1:l[k].kind=1):(objs l)[(objs (l.take k)).length]? = some l[k]:=by
 have e:l=l.take k++l[k]::l.drop (k+1):=by rw[List.getElem_cons_drop];exact (kxo k l).symm
 have a:objs l=objs (l.take k)++l[k]::objs (l.drop (k+1)):=by
  conv=>lhs;rw[e]
  unfold objs;rw[kjl,List.filter_cons_of_pos (by rw[kqx];exact h1)]
 rw[a,kxj (kqg _)];simp
theorem Az(A:Option Addr)(ws:List Nat)(c n:Nat)(w:World)(hn:ws.length=n)(hs:al (n:Int)=true)(hc:n<=c)(U:RdW w w.heap.size A ws)(ho:∀x∈ws,x<18446744073709551616):
 Calls prog 94 #[.slice A n c] w λe w'=>PtRes ws A n c e w'/\Below w.heap.size w w':=by
 subst hn;have hb:=(ac _).1 hs;have HR:=hid U;have z:=hid (λW (U:RdW W W.heap.size A ws)=>tZ A ws c ws.length W rfl (by omega) hc U);unfold vW at z;have Jf:ir ws=if (tyN ws).isSome=true then 0 else 50:=by unfold ir;rw[if_pos hs]
 have Jw:=hid (λW (U:RdW W W.heap.size A ws)=>(show Calls prog 157 #[.slice A ws.length c,.int .i64 16] W λe w'=>e=.returned (.bool (eD ws 16))/\W=w' from ur A ws c ws.length 16 W rfl (by omega) (by omega) hc U));have Jv:=hid (λW (U:RdW W W.heap.size A ws)=>(show Calls prog 157 #[.slice A ws.length c,.int .i64 24] W λe w'=>e=.returned (.bool (eD ws 24))/\W=w' from ur A ws c ws.length 24 W rfl (by omega) (by omega) hc U));have Kq:=hid (λW (U:RdW W W.heap.size A ws)=>Bw A ws c ws.length W rfl (by omega) U ho);have Ki:=hid (λW (U:RdW W W.heap.size A ws)=>sI A ws c ws.length W rfl (by omega) U ho);unfold yE at Kq;unfold oB at Ki;have hzv:=zeroSg;have Eq:(prog.info? 163).map (·.size)=some (#[.slice none 0 0,.slice none 0 0,.slice none 0 0,.slice none 0 0,.map none]:Array Value).size:=tU;have X0:=hid (Bx.new w 163 #[.slice none 0 0,.slice none 0 0,.slice none 0 0,.slice none 0 0,.map none]);have B:=hid ((kql w.heap.size w).alloc (kqg _) (.cells #[.slice none 0 0,.slice none 0 0,.slice none 0 0,.slice none 0 0,.map none] 163));cases ht:tyN ws with
 | none =>
  rw[ht] at z Jf;rw[Jf] at z;have HV:=hid (oN (.inl ht));simp only[kkp,kkd,kzp,if_false] at z;clear Jf ht hs hb U ho Jw Jv Kq Ki hc;go_enter func94,ntmps94;go_wp2_with fail;refine (z.out _ (HR.out.up B.out B.out.size)).mono ?_;rintro e w1 ⟨⟨a,b0,b1,rfl⟩,V⟩;have o:=hid (B.out.trans (V.mono B.out.size));have X1:=hid (X0.out.up V X0.out.lt);have Jl:=o.out.size;have r:=hid ((o.out.alloc Jl (.cells #[.int .i64 a,.int .i64 0] 126)).alloc (by simp;omega) (.cells #[.bool b0,.bool b1] 127));have X2:=hid ((X1.out.alloc (.cells #[.int .i64 a,.int .i64 0] 126)).alloc (.cells #[.bool b0,.bool b1] 127));clear V;go_wp2_with (first
   | ((with_reducible refine bt 163 (.tmp 2) _ ?_);refine am rfl _ _ _ rfl w.heap.size 163 #[.slice none 0 0,.slice none 0 0,.slice none 0 0,.slice none 0 0,.map none] #[.slice none 0 0,.slice none 0 0,.slice none 0 0,.slice none 0 0,.map none] (by rfl) (by rfl) X2.out rfl Eq (by simp[Value.oneCell']) ?_;intro w9 d g;have m:=hid d;have j:=hid g;clear d g))
  exact kqv (v:=.tuple #[.agg #[.slice none 0 0,.slice none 0 0,.slice none 0 0,.slice none 0 0,.map none],.int .i64 1]) (eM results94 _ m.out rfl rfl rfl) rfl ⟨⟨1,_,rfl,by omega,λ_=>⟨HV.out,rfl⟩,λh=>by omega⟩,j.out.below r.out (kqg _)⟩
 | some t =>
  have Ms:=m9 ht;rw[ht] at z Jf;rw[Jf] at z;simp only[kq2,kke,if_true] at z;have Lg:=hid (λW (U:RdW W W.heap.size A ws)=>uo A ws c ws.length t W rfl hs Ms U ho);unfold Dn at Lg;have Ma:=hid (λl O=>nB (ws:=ws) (t:=t) (l:=l) ht O);have Kh:=hid (λh=>oN (ws:=ws) (.inr h));have Jn:Hid ((eD ws 16=false\/eD ws 24=false\/ga ws t=false\/slsOk ws=false\/xx ws=false)->lay ws=false):=hid λh=>by
   cases hq:lay ws with
   | false=>rfl
   | true =>
    cases O:blocks ws 128 with
    | none=>rw[Kh.out O] at hq;cases hq
    | some l =>obtain⟨a1,a2,a3,a4,a5,-⟩:=(Ma.out l O).1 hq;rw[a1,a2,a3,a4,fF O,a5] at h;simp at h
  have Lu:Hid (∀l,blocks ws 128=some l->∀k (hk:k<l.length),∃ka:Nat,l[k].at_=(ka:Int)/\ka<=2048):=hid λl O k hk=>by
   obtain⟨a,e,a1,a2,a3,a4,-⟩:=bH _ _ O (by omega) k hk;exact⟨a,by rw[e];rfl,by have:=(aC a4).2.2;omega⟩
  have Lp:=hid (λl (O:blocks ws 128=some l)=>(bq (by omega) _ _ O (by omega) (by omega) (by omega)).1);have Ko:=hid hs;have HT:=hid ht;have Lb:Hid (∀mb W,(Instr.build 163 #[(0,.slice A ws.length c),(4,.map (some mb))]).run prog W=.ok (.agg #[.slice A ws.length c,.slice none 0 0,.slice none 0 0,.slice none 0 0,.map (some mb)]) W):=hid λ_ _=>by kernel_rfl
  have hb2048:ws.length<=2048:=by omega
  clear Jf hs hb U ho ht hc;go_enter func94,ntmps94;go_wp2_with fail;refine (z.out _ (HR.out.up B.out B.out.size)).mono ?_;rintro e w1 ⟨⟨a,b0,b1,rfl⟩,V⟩;have o:=hid (B.out.trans (V.mono B.out.size));have X1:=hid (X0.out.up V X0.out.lt);have Jl:=o.out.size;have r:=hid ((o.out.alloc Jl (.cells #[.int .i64 a,.int .i64 (t:Int)] 126)).alloc (by simp;omega) (.cells #[.bool b0,.bool b1] 127));have X2:=hid ((X1.out.alloc (.cells #[.int .i64 a,.int .i64 (t:Int)] 126)).alloc (.cells #[.bool b0,.bool b1] 127));have T4:=hid ((Bx.new w1 126 #[.int .i64 a,.int .i64 (t:Int)]).alloc (.cells #[.bool b0,.bool b1] 127));clear V;go_wp2_with fail;obtain⟨f,Le⟩:∃f,(w1.alloc (.cells #[.int .i64 a,.int .i64 (t:Int)] 126)).alloc (.cells #[.bool b0,.bool b1] 127)=f:=⟨_,rfl⟩;rw[Le] at r X2 T4 |-;clear Le X0 X1 B o;have Ja:=r.out.size;refine (Jw.out _ (HR.out.up r.out Ja)).mono ?_;rintro e w2 ⟨rfl,rfl⟩;cases Km:eD ws 16
  .have HV:=hid (Jn.out (.inl Km));go_wp2_with (first
    | ((with_reducible refine bt 163 (.tmp 2) _ ?_);refine am rfl _ _ _ rfl w.heap.size 163 #[.slice none 0 0,.slice none 0 0,.slice none 0 0,.slice none 0 0,.map none] #[.slice none 0 0,.slice none 0 0,.slice none 0 0,.slice none 0 0,.map none] (by rfl) (by rfl) X2.out rfl Eq (by simp[Value.oneCell']) ?_;intro w9 d g;have m:=hid d;have j:=hid g;clear d g))
   exact kqv (v:=.tuple #[.agg #[.slice none 0 0,.slice none 0 0,.slice none 0 0,.slice none 0 0,.map none],.int .i64 2]) (eM results94 _ m.out rfl rfl rfl) rfl ⟨⟨2,_,rfl,by omega,λ_=>⟨HV.out,rfl⟩,λh=>by omega⟩,j.out.below r.out (kqg _)⟩
  have Mc:=hid Km;clear Km;go_wp2_with fail;refine (Jv.out _ (HR.out.up r.out Ja)).mono ?_;rintro e w2 ⟨rfl,rfl⟩;cases Kp:eD ws 24
  .have HV:=hid (Jn.out (.inr (.inl Kp)));go_wp2_with (first
    | ((with_reducible refine bt 163 (.tmp 2) _ ?_);refine am rfl _ _ _ rfl w.heap.size 163 #[.slice none 0 0,.slice none 0 0,.slice none 0 0,.slice none 0 0,.map none] #[.slice none 0 0,.slice none 0 0,.slice none 0 0,.slice none 0 0,.map none] (by rfl) (by rfl) X2.out rfl Eq (by simp[Value.oneCell']) ?_;intro w9 d g;have m:=hid d;have j:=hid g;clear d g))
   exact kqv (v:=.tuple #[.agg #[.slice none 0 0,.slice none 0 0,.slice none 0 0,.slice none 0 0,.map none],.int .i64 3]) (eM results94 _ m.out rfl rfl rfl) rfl ⟨⟨3,_,rfl,by omega,λ_=>⟨HV.out,rfl⟩,λh=>by omega⟩,j.out.below r.out (kqg _)⟩
  have Lo:=hid Kp;clear Kp;have Ls:=Lb.out;have Lr:=@run_makeMap prog;obtain⟨-,t41,-,-,Mr⟩:=T4.out.c2;go_wp2_with fail;have g3:=Bx.new (f.alloc (Obj.map #[] 0)) 163 #[.slice A ws.length c,.slice none 0 0,.slice none 0 0,.slice none 0 0,.map (some f.heap.size)];rw[kqn] at g3;have m3:=(World.ownsMap_made (H:=Unit) f prog 3 (plainElem prog 4)).alloc (.cells #[.slice A ws.length c,.slice none 0 0,.slice none 0 0,.slice none 0 0,.map (some f.heap.size)] 163);have x3:=(X2.out.alloc (Obj.map #[] 0)).alloc (.cells #[.slice A ws.length c,.slice none 0 0,.slice none 0 0,.slice none 0 0,.map (some f.heap.size)] 163);have Je:=(r.out.alloc Ja (Obj.map #[] 0)).alloc (by simp;omega) (.cells #[.slice A ws.length c,.slice none 0 0,.slice none 0 0,.slice none 0 0,.map (some f.heap.size)] 163);have Kf:((f.alloc (Obj.map #[] 0)).alloc (.cells #[.slice A ws.length c,.slice none 0 0,.slice none 0 0,.slice none 0 0,.map (some f.heap.size)] 163)).heap.size=f.heap.size+1+1:=by simp
  obtain⟨W3,Ky⟩:=xq ((f.alloc (Obj.map #[] 0)).alloc (.cells #[.slice A ws.length c,.slice none 0 0,.slice none 0 0,.slice none 0 0,.map (some f.heap.size)] 163));rw[Ky] at g3 m3 x3 Je Kf |-;have Lj:=hid Kf;have Ln:w.heap.size<=W3.heap.size:=Je.size;refine (Lg.out _ (HR.out.up Je Je.size)).mono ?_;rintro e w4 ⟨⟨TB,tm,td,L,rfl,hT⟩,Jd⟩;have g4:=g3.up Jd g3.lt;have M4:=hid (bV m3 (Jd.block _ m3.lt));have X4:=hid (x3.up Jd x3.lt);have Kb:=hid (Je.trans (Jd.mono Ln));have hz4:=Jd.size;have Lc:=x3.lt;have hg4:=g4.lt;obtain⟨q0,q1,q2,q3,q4,qf,-⟩:=g4.c5;have f1:=qf 1;have G4:=hid g4;have u:w.heap.size≠f.heap.size+1:=by have:=X2.out.lt;omega
  have hne7':=u.symm;clear Ky g3 m3 x3 Je Kf Jd qf g4 X2 r T4 t41 Mr Ls Lr;cases Ji:ga ws t
  .rw[Ji] at hT;simp only[kzp,if_false];have HV:=hid (Jn.out (.inr (.inr (.inl Ji))));have X5:=hid (X4.out.far (p:=⟨f.heap.size+1,1,none⟩) u (.slice TB tm td));have Ly:=hid (Kb.out.setCell (p:=⟨f.heap.size+1,1,none⟩) (by dsimp only;omega) (.slice TB tm td));clear hT Ji;go_wp2_with (first
    | ((with_reducible refine bt 163 (.tmp 2) _ ?_);refine am rfl _ _ _ rfl w.heap.size 163 #[.slice none 0 0,.slice none 0 0,.slice none 0 0,.slice none 0 0,.map none] #[.slice none 0 0,.slice none 0 0,.slice none 0 0,.slice none 0 0,.map none] (by rfl) (by rfl) X5.out rfl Eq (by simp[Value.oneCell']) ?_;intro w9 d g;have m:=hid d;have j:=hid g;clear d g))
   exact kqv (v:=.tuple #[.agg #[.slice none 0 0,.slice none 0 0,.slice none 0 0,.slice none 0 0,.map none],.int .i64 4]) (eM results94 _ m.out rfl rfl rfl) rfl ⟨⟨4,_,rfl,by omega,λ_=>⟨HV.out,rfl⟩,λh=>by omega⟩,j.out.below Ly.out (kqg _)⟩
  obtain⟨rfl,Jo,Lf⟩:=hT Ji;simp only[if_true];have Mn:=hid Ji;have Mj:=hid Lf;have I:f.heap.size+1<W3.heap.size:=by have:=Lj.out;omega
  have OT5:=hid (show km (w4.setCell ⟨f.heap.size+1,1,none⟩ (.slice TB L.length td)) W3.heap.size (.slice TB L.length td) L from ⟨ar Jo.1 (aY Jo.1 I).symm _,λy hy=>ar (Jo.2 y hy) (aY (Jo.2 y hy) I).symm _⟩);have X5:=hid (X4.out.far (p:=⟨f.heap.size+1,1,none⟩) u (.slice TB L.length td));have G5:=hid (G4.out.set_ 1 (.slice TB L.length td));have M5:=hid (M4.out.setCell (a:=⟨f.heap.size+1,1,none⟩) (by simp) (.slice TB L.length td));have Jj:=Kb.out.setCell (p:=⟨f.heap.size+1,1,none⟩) (by dsimp only;omega) (.slice TB L.length td);clear hT Ji Jo Lf;go_wp2_with fail;obtain⟨W5,Kl⟩:∃W5,w4.setCell ⟨f.heap.size+1,1,none⟩ (.slice TB L.length td)=W5:=⟨_,rfl⟩;have Lz:W5.heap.size=w4.heap.size:=by rw[<-Kl];simp
  rw[Kl] at OT5 X5 G5 M5 Jj |-;refine (Kq.out _ (HR.out.up Jj Jj.size)).mono ?_;rintro e w6 ⟨hh,Q⟩;have Li:=Jj.trans (Q.mono Jj.size);have g6:=G5.out.up Q G5.out.lt;have X6:=hid (X5.out.up Q X5.out.lt);have M6:=hid (bV M5.out (Q.block _ M5.out.lt));have OT6:=hid (show km w6 W3.heap.size (.slice TB L.length td) L from ⟨aj OT5.out.1 Q (kqg _),λy hy=>aj (OT5.out.2 y hy) Q (kqg _)⟩);have hz6:=Q.size;have hx6:=X6.out.lt;obtain⟨q0',q1',q2',q3',q4',qf',hg6⟩:=g6.c5;have f2:=qf' 2;have G6:=hid g6;have Jc:=hid Li;have hgz:f.heap.size+1<W5.heap.size:=G5.out.lt;have h35:W3.heap.size<=W5.heap.size:=by omega
  have q:db ws=if slsOk ws=true then 0 else 50:=by unfold db;rw[if_pos Ko.out]
  clear Kl Lz Jj Q Li g6 qf' q0 q1 q2 q3 q4 f1 X4 G4 M4 Kb X5 G5 M5 OT5;cases Jb:slsOk ws
  .rw[Jb] at q;simp only[kzp,if_false] at q;obtain rfl:=hh.2 (by rw[q];decide);have HV:=hid (Jn.out (.inr (.inr (.inr (.inl Jb)))));rw[q];have X7:=hid (X6.out.far (p:=⟨f.heap.size+1,2,none⟩) u (.slice none 0 0));have Ke:=hid (Jc.out.setCell (p:=⟨f.heap.size+1,2,none⟩) (by dsimp only;omega) (.slice none 0 0));clear Jb q hh;go_wp2_with (first
    | ((with_reducible refine bt 163 (.tmp 2) _ ?_);refine am rfl _ _ _ rfl w.heap.size 163 #[.slice none 0 0,.slice none 0 0,.slice none 0 0,.slice none 0 0,.map none] #[.slice none 0 0,.slice none 0 0,.slice none 0 0,.slice none 0 0,.map none] (by rfl) (by rfl) X7.out rfl Eq (by simp[Value.oneCell']) ?_;intro w9 d g;have m:=hid d;have j:=hid g;clear d g))
   exact kqv (v:=.tuple #[.agg #[.slice none 0 0,.slice none 0 0,.slice none 0 0,.slice none 0 0,.map none],.int .i64 5]) (eM results94 _ m.out rfl rfl rfl) rfl ⟨⟨5,_,rfl,by omega,λ_=>⟨HV.out,rfl⟩,λh=>by omega⟩,j.out.below Ke.out (kqg _)⟩
  rw[Jb] at q;simp only[if_true] at q;obtain⟨R,rfl,Lx,Kt⟩:=hh.1 q;rw[q];have Lq:=hid Jb;have Kw:R≠f.heap.size+1:=by omega
  have S7:=hid (Kt.far (p:=⟨f.heap.size+1,2,none⟩) Kw (.slice (some ⟨R,0,none⟩) 16 16));have X7:=hid (X6.out.far (p:=⟨f.heap.size+1,2,none⟩) u (.slice (some ⟨R,0,none⟩) 16 16));have G7:=hid (G6.out.set_ 2 (.slice (some ⟨R,0,none⟩) 16 16));have M7:=hid (M6.out.setCell (a:=⟨f.heap.size+1,2,none⟩) (by simp) (.slice (some ⟨R,0,none⟩) 16 16));have OT7:=hid (show km (w6.setCell ⟨f.heap.size+1,2,none⟩ (.slice (some ⟨R,0,none⟩) 16 16)) W3.heap.size (.slice TB L.length td) L from ⟨ar OT6.out.1 (aY OT6.out.1 I).symm _,λy hy=>ar (OT6.out.2 y hy) (aY (OT6.out.2 y hy) I).symm _⟩);have S:=Jc.out.setCell (p:=⟨f.heap.size+1,2,none⟩) (by dsimp only;omega) (.slice (some ⟨R,0,none⟩) 16 16);clear Jb q hh Kt;go_wp2_with fail;obtain⟨W7,Jp⟩:∃W7,w6.setCell ⟨f.heap.size+1,2,none⟩ (.slice (some ⟨R,0,none⟩) 16 16)=W7:=⟨_,rfl⟩;have Jq:W7.heap.size=w6.heap.size:=by rw[<-Jp];simp
  rw[Jp] at OT7 X7 G7 M7 S7 S |-;refine (Ki.out _ (HR.out.up S S.size)).mono ?_;rintro e w8 ⟨⟨AW,cW,rfl,E⟩,D⟩;have Kd:=hid (S.trans (D.mono S.size));have X8:=hid (X7.out.up D X7.out.lt);have hgl:R<W7.heap.size:=S7.out.lt;have Mt:W5.heap.size<=W7.heap.size:=by omega
  cases N:xx ws
  .have HV:=hid (Jn.out (.inr (.inr (.inr (.inr N)))));have he:ib ws=50:=by unfold ib;rw[if_pos Ko.out,N];rfl
   have ho:gJ ws=[]:=by unfold gJ;rw[if_neg (by rw[he];decide)]
   rw[he,ho];clear N he ho E S D Jp Jq q0' q1' q2' q3' q4' f2;go_wp2_with (first
    | ((with_reducible refine bt 163 (.tmp 2) _ ?_);refine am rfl _ _ _ rfl w.heap.size 163 #[.slice none 0 0,.slice none 0 0,.slice none 0 0,.slice none 0 0,.map none] #[.slice none 0 0,.slice none 0 0,.slice none 0 0,.slice none 0 0,.map none] (by rfl) (by rfl) X8.out rfl Eq (by simp[Value.oneCell']) ?_;intro w9 d g;have m:=hid d;have j:=hid g;clear d g))
   exact kqv (v:=.tuple #[.agg #[.slice none 0 0,.slice none 0 0,.slice none 0 0,.slice none 0 0,.map none],.int .i64 6]) (eM results94 _ m.out rfl rfl rfl) rfl ⟨⟨6,_,rfl,by omega,λ_=>⟨HV.out,rfl⟩,λh=>by omega⟩,j.out.below Kd.out (kqg _)⟩
  have he:ib ws=0:=by unfold ib;rw[if_pos Ko.out,N];rfl
  obtain⟨l,O⟩:∃l,blocks ws 128=some l:=by
   cases O:blocks ws 128 with
   | none=>rw[mY O] at N;cases N
   | some l=>exact⟨l,rfl⟩
  have ho:gJ ws=l:=by unfold gJ;rw[if_pos he,O];rfl
  have Jz:js l=true:=by rw[<-fF O];exact N
  rw[ho] at E;rw[he,ho];have hl24:l.length<=1024:=by have:=Lp.out l O;omega
  have HL:=hid O;have Mf:=hid Jz;have P8:=hid (show PtS w8 w.heap.size W3.heap.size W5.heap.size R ws TB AW td cW L l from ⟨X8.out,⟨aj OT7.out.1 D (kqg _),λy hy=>aj (OT7.out.2 y hy) D (kqg _)⟩,S7.out.up D S7.out.lt,aB E Mt⟩);have Mg:=hid P8.out.bk;have G8:=hid (G7.out.up D G7.out.lt);have M8:=hid (bV M7.out (D.block _ M7.out.lt));have Lh:=G8.out.lt;have Lk:=M8.out.lt;have Lw:=Kd.out.size;have Mh:=hid (Lu.out l HL.out);clear N he ho O Jz E S D Jp Jq q0' q1' q2' q3' q4' f2 OT6 OT7 X6 X7 X8 G6 G7 M6 M7 S7 Jc;obtain⟨i2,hi,Kr,Jl,Ja⟩:=kzt kL;have HJ:=hid hi;have Mp:=hid Kr;have Me:=hid Jl;have Mm:=hid Ja;clear hi Kr Jl Ja;go_wp2_with fail;go_loopw [61] (λi wr=>∃(k:Nat) (OB:Option Addr) (oc:Nat),k<=l.length/\i=.int .i64 k/\Hid (Bx wr (f.heap.size+1) 163 #[.slice A ws.length c,.slice TB L.length td,.slice (some ⟨R,0,none⟩) 16 16,.slice OB (objs (l.take k)).length oc,.map (some f.heap.size)])/\Hid (wr.ownsRow w8.heap.size 55 6 (.slice OB (objs (l.take k)).length oc) (objs (l.take k)).length ((objs (l.take k)).flatMap Bk.cells))/\Hid (wr.ownsMap prog 3 (plainElem prog 4) f.heap.size (objs (l.take k)).length (gH ((objs l).map Bk.at_) (objs (l.take k)).length))/\Hid (PtS wr w.heap.size W3.heap.size W5.heap.size R ws TB AW td cW L l)/\w8.heap.size<=wr.heap.size/\Hid (Below w.heap.size w wr)) (λi _=>l.length-(intOf i).toNat)
  case atStart=>exact⟨0,none,0,kqy _,rfl,G8,hid (kq3 _ _ _ _),M8,P8,kqg _,Kd⟩
  obtain⟨k,OB,oc,hk,rfl,G,ON,M,P,Ku,HB⟩:=hrel;have hz:=HB.out.size;by_cases Js:k<l.length
  .obtain ⟨b,off,rfl,hbb,p0,p1,p2,p3,p4,p5⟩:=RdB.at_ (show RdB wr wr.heap.size AW l from Rd.of_own P.out.b) Js;have Y:=hid (ni Js);have Jh:=hid (zN Js);have Ld:(objs (l.take k)).length<=k:=by unfold objs;have:=kxi (λb:Bk=>b.kind==1) (l.take k);rw[kq6] at this;omega
   obtain⟨x,hx⟩:=xq (l[k]);rw[hx] at p0 p1 p2 p3 p4 p5 Y Jh;obtain⟨C,xs,xk,F,K,J⟩:=x;dsimp only at p0 p1 p2 p3 p4 p5 Y Jh;obtain⟨LK,Kz⟩:=xq (objs (l.take k));rw[Kz] at G ON M Y Jh Ld;have hki:(k:Int)<(l.length:Int):=by omega
   have hk0:(0:Int)<=(k:Int):=by omega
   obtain⟨ka,Jr,hka2⟩:=Mh.out k Js;rw[hx] at Jr;dsimp only at Jr;clear hx Kz;by_cases Jg:xk=1
   .have X:Hid (objs (l.take (k+1))=LK++[⟨C,xs,xk,F,K,J⟩]):=hid (by rw[Y.out,if_pos Jg]);have HX:=hid (Jh.out Jg);have Mo:Hid (gH ((objs l).map Bk.at_) (LK.length+1)=(gH ((objs l).map Bk.at_) LK.length).put (.int .i64 C) (.lit (.bool true))):=hid (by simp only[gH,kzh,HX.out];rfl);have Kv:(Lit.int .i64 C).wf=true:=by simp[Lit.wf,IntKind.min,IntKind.max,IntKind.signed,IntKind.bits];omega
    have HK:=hid (keyOf_int_mk (P:=prog) underlying3 Kv);subst Jg;obtain⟨g0,g1,g2,g3,g4,gf,-⟩:=G.out.c5;have gf3:=gf 3;have hgw:=G.out.lt;have Jm:=hid (ON.out.alloc (.cells #[.int .i64 C,.int .i64 xs,.int .i64 1,.int .i64 F,.bool K,.int .u64 (J:Int)] 55));have Kc:=hid (G.out.alloc (.cells #[.int .i64 C,.int .i64 xs,.int .i64 1,.int .i64 F,.bool K,.int .u64 (J:Int)] 55));have Kn:=hid (M.out.alloc (.cells #[.int .i64 C,.int .i64 xs,.int .i64 1,.int .i64 F,.bool K,.int .u64 (J:Int)] 55));have Kk:=hid (P.out.alloc (.cells #[.int .i64 C,.int .i64 xs,.int .i64 1,.int .i64 F,.bool K,.int .u64 (J:Int)] 55));have o:=hid (HB.out.alloc hz (.cells #[.int .i64 C,.int .i64 xs,.int .i64 1,.int .i64 F,.bool K,.int .u64 (J:Int)] 55));have BX1:=hid (Bx.new wr 55 #[.int .i64 C,.int .i64 xs,.int .i64 1,.int .i64 F,.bool K,.int .u64 (J:Int)]);have Ka:w8.heap.size<=(wr.alloc (.cells #[.int .i64 C,.int .i64 xs,.int .i64 1,.int .i64 F,.bool K,.int .u64 (J:Int)] 55)).heap.size:=bM Ku;have Jy:=hid Ka;have Kh:=hid (show some wr.heap.size≠(Value.slice OB LK.length oc).ownBlock from λh=>by have:=(ON.out.lt _ h.symm).2;omega);have hmw:=M.out.lt
    have Jt:=bY (wr.alloc (.cells #[.int .i64 C,.int .i64 xs,.int .i64 1,.int .i64 F,.bool K,.int .u64 (J:Int)] 55)) [.int .i64 C,.int .i64 xs,.int .i64 1,.int .i64 F,.bool K,.int .u64 (J:Int)] 55;rw[kqn] at Jt;have Jt:=hid Jt;clear Y Jh Kv gf Jr Ka;go_wp2_with (first
     | (at_builtin;refine kzn _ rfl _ _ 48 rfl w8.heap.size 55 i2 _ 6 48 underlying48 HJ.out Mp.out Me.out Mm.out rfl (by decide) _ _ _ rfl (Jm.out.alloc _) ⟨_,0,none⟩ 1 1 [.int .i64 C,.int .i64 xs,.int .i64 1,.int .i64 F,.bool K,.int .u64 (J:Int)] rfl rfl Jt.out (by simp[Value.oneCell']) (by unfold maxLen;omega) (by omega) (bM Jy.out) ?_;intro v1 w6 Z T _;obtain⟨OV,oc2,rfl⟩:=aE Z;have Jc:=hid (aw o.out o.out.size (aB Jm.out Lw) T);have Kg:=hid Z;have Kx:=hid ((Kc.out.alloc _).grown T (aY ON.out Lh));have Lt:=hid ((Kn.out.alloc _).kept T (aY ON.out Lk));have Mi:=hid ((Kk.out.alloc _).late Mg.out Jm.out T);have BX6:=hid ((BX1.out.alloc _).grown T Kh.out);have Ml:=kza (bM Jy.out) T.size;obtain⟨d0,d1,d2,d3,d4,df,-⟩:=Kx.out.c5;obtain⟨x0,-,-,-,-,-,-,xlt⟩:=BX6.out.c6;have df3:=df 3;clear Z T df)
     | (at_mapUpdate;refine wpList_mapUpdate_own _ rfl _ _ _ 161 rfl 3 4 rp underlying161 _ f.heap.size _ _ rfl (Lt.out.setCell (a:=⟨f.heap.size+1,3,none⟩) (by simp) _) (by unfold maxLen;omega) _ _ _ rfl rfl HK.out (.lit (.bool true)) [] (plainElem_bool underlying4 true) ?_;intro w7 Kj Jk))
    have Ke:=hid ((Jc.out.setCell (p:=⟨f.heap.size+1,3,none⟩) (by dsimp only;omega) (.slice OV (LK.length+1) oc2)).grown Jk (by rw[kxw];exact Jc.out.size) (λk hk=>by injection hk with hk;omega));have Lm:=hid ((Kx.out.set_ 3 (.slice OV (LK.length+1) oc2)).grown Jk (by simp));have n7:=(aY Kg.out Lh).symm;have Mb:=hid (aU (ar Kg.out n7 (.slice OV (LK.length+1) oc2)) Jk (.inr (aY Kg.out Lk).symm));have Ll:=mR P.out.x M.out;have Ks:=mR P.out.s M.out;have La:f.heap.size<W3.heap.size:=by have:=Lj.out;omega
    have Mu:=hid ((Mi.out.set_ (p:=⟨f.heap.size+1,3,none⟩) u I (by omega) Lx (.slice OV (LK.length+1) oc2)).grown Jk Ll Ks (.inr (aY P.out.t.1 La).symm) (λy hy=>.inr (aY (P.out.t.2 y hy) La).symm) (.inr (aY P.out.b (show f.heap.size<W5.heap.size by omega)).symm));have Jq:w8.heap.size<=w7.heap.size:=kza Ml (by have:=Jk.size;rw[kxw] at this;exact this);clear Jk Ll Ks n7;go_wp2;go_roundw
    case rel =>
     refine⟨k+1,OV,oc2,by omega,by go_num,?_,?_,?_,Mu,Jq,Ke⟩
     .rw[X.out,kqw];exact Lm
     .rw[X.out,kqw,kxl];exact Mb
     rw[X.out,kqw];refine hid ?_;show w7.ownsMap _ _ _ _ (LK.length+1) (gH _ (LK.length+1));rw[Mo.out];exact Kj
    case measure=>simp[intOf];omega
   have X:Hid (objs (l.take (k+1))=LK):=hid (by rw[Y.out,if_neg Jg,kz1]);have e1:(xk==1)=false:=by rw[kqi];exact Jg
   have Jm:=hid (ON.out.alloc (.cells #[.int .i64 C,.int .i64 xs,.int .i64 xk,.int .i64 F,.bool K,.int .u64 (J:Int)] 55));have Kc:=hid (G.out.alloc (.cells #[.int .i64 C,.int .i64 xs,.int .i64 xk,.int .i64 F,.bool K,.int .u64 (J:Int)] 55));have Kn:=hid (M.out.alloc (.cells #[.int .i64 C,.int .i64 xs,.int .i64 xk,.int .i64 F,.bool K,.int .u64 (J:Int)] 55));have Kk:=hid (P.out.alloc (.cells #[.int .i64 C,.int .i64 xs,.int .i64 xk,.int .i64 F,.bool K,.int .u64 (J:Int)] 55));have o:=hid (HB.out.alloc hz (.cells #[.int .i64 C,.int .i64 xs,.int .i64 xk,.int .i64 F,.bool K,.int .u64 (J:Int)] 55));have Mv:=hid (show w8.heap.size<=(wr.alloc (.cells #[.int .i64 C,.int .i64 xs,.int .i64 xk,.int .i64 F,.bool K,.int .u64 (J:Int)] 55)).heap.size from bM Ku);subst Jr;clear Y Jh Jg;go_wp2;go_roundw
   case rel=>exact⟨k+1,OB,oc,by omega,by go_num,by rw[X.out];exact Kc,by rw[X.out];exact Jm,by rw[X.out];exact Kn,Kk,Mv.out,o⟩
   case measure=>simp[intOf];omega
  obtain rfl:k=l.length:=by omega
  rw[kz2] at G ON M;have HG:=hid G.out;obtain⟨g0,g1,g2,g3,g4,-,-⟩:=G.out.c5;go_wp2_with (first
   | ((with_reducible refine gX 163 (.tmp 7) ?_);refine kja rfl _ _ rfl (f.heap.size+1) (by rfl) 163 _ (0,0) _ HG.out underlying163 (by rfl) tU ?_)
   | ((with_reducible refine bt 163 (.tmp 2) _ ?_);refine am rfl _ _ _ rfl w.heap.size 163 #[.slice none 0 0,.slice none 0 0,.slice none 0 0,.slice none 0 0,.map none] #[.slice A ws.length c,.slice TB L.length td,.slice (some ⟨R,0,none⟩) 16 16,.slice OB (objs l).length oc,.map (some f.heap.size)] (by rfl) (by rfl) P.out.x rfl Eq (by simp[Value.oneCell']) ?_;intro w9 d g;have m:=hid d;have j:=hid g;clear d g))
  refine kqv (v:=.tuple #[.agg #[.slice A ws.length c,.slice TB L.length td,.slice (some ⟨R,0,none⟩) 16 16,.slice OB (objs l).length oc,.map (some f.heap.size)],.int .i64 0]) (eM results94 _ m.out rfl rfl rfl) rfl ⟨⟨0,_,rfl,kk6 _,λh=>absurd rfl h,λ_=>⟨t,l,?_⟩⟩,j.out.below HB.out (kqg _)⟩;have d:=j.out.2.2 w.heap.size (kqg _);have Ju:wr.grownBy w9 (some w.heap.size):=⟨d.os,d.tape,d.output,by rw[j.out.1];exact kqg _,λk hk Lv=>j.out.2.1 k (λe=>Lv (by rw[e]))⟩;have hS:=j.out.bx P.out.s (show R≠w.heap.size by omega);refine⟨HT.out,HL.out,Mc.out,Lo.out,Mn.out,Lq.out,Mf.out,TB,some ⟨R,0,none⟩,OB,td,16,oc,f.heap.size,L,rfl,?_,Mj.out,Rd.of_box hS hS.lt,?_,?_⟩
  .exact RdL.of_own (H:=W3.heap.size) ⟨aU P.out.t.1 Ju (.inr (aY P.out.t.1 Lc).symm),λy hy=>aU (P.out.t.2 y hy) Ju (.inr (aY (P.out.t.2 y hy) Lc).symm)⟩ rfl
  .exact Rd.of_own (aU ON.out Ju (.inr (aY ON.out (show w.heap.size<w8.heap.size by omega)).symm))
  exact M.out.kept Ju (mR P.out.x M.out).symm
theorem zy{t:Nat}{L:List Ty}(hty:ga ws t=true)(hL:L.map Ty.l=eB ws t 8):∀x∈L,b8 x.l=0/\kSz x.l=aP x.l.length/\x.l.length<=8:=by
 intro x k;have b:x.l∈eB ws t 8:=by rw[<-hL];exact kz9 k
 unfold eB at b;obtain⟨i,j,e⟩:=kzi.1 b;rw[kq8] at j;have a:=(fI ws t).1 hty i (by omega);unfold Au at a;rw[if_pos (by omega)] at a;have c:x.l=cP (wd ws (96+2*i)):=by rw[<-e];unfold aX;rw[if_pos a]
 obtain⟨g,h,-,-⟩:=qE a;have d:x.l.length<=8:=by rw[c,ei];exact g
 have f:b8 x.l=0:=je d (by rw[c];exact h);exact⟨f,by unfold kSz;rw[if_pos f],d⟩
section
variable {A TA SA OA:Option Addr} {ws:List Nat} {L:List Ty} {l:List Bk} {c n tc tn sc sn oc mb:Nat} {w:World}
theorem CK(hl:blocks ws 128=some l)(hm:(objs l).length<=1000000)(hO:RdB w w.heap.size OA (objs l)):
 Calls prog 100 #[.agg #[.slice A n c,.slice TA tn tc,.slice SA sn sc,.slice OA (objs l).length oc,.map (some mb)],.func (.func 95) #[.agg #[.slice A n c,.slice TA tn tc,.slice SA sn sc,.slice OA (objs l).length oc,.map (some mb)]] #[]] w λe w'=>e=.returned (.bool ((objs l).all λb=>!wrK ws T (objs l) 7 b))/\Below w.heap.size w w':=by
 refine iO 95 A TA SA OA (objs l) _ c n tc tn sc sn oc (objs l).length mb w rfl hm hO (λ_ _=>by kernel_rfl) (λk h W hb=>?_);obtain⟨a,z,g,d,f,e,-⟩:=fW hl (kqm h);rw[e,kw];have i:wrB ws T (objs l) a z g f d 7=(f||decide (0<d)):=by simp[wrB]
 rw[i];exact DM A TA SA OA c n tc tn sc sn oc (objs l).length mb a z g d 1 f W
theorem Ad(hl:blocks ws 128=some l)(hm:(objs l).length<=1000000)(ht:L.length=tn)(hk:∀x∈L,b8 x.l=0/\kSz x.l=aP x.l.length/\x.l.length<=8)(hO:RdB w w.heap.size OA (objs l))(hL:RdL w w.heap.size TA L):
 Calls prog 100 #[.agg #[.slice A n c,.slice TA tn tc,.slice SA sn sc,.slice OA (objs l).length oc,.map (some mb)],.func (.func 96) #[.agg #[.slice A n c,.slice TA tn tc,.slice SA sn sc,.slice OA (objs l).length oc,.map (some mb)]] #[]] w λe w'=>e=.returned (.bool ((objs l).all λb=>!wrK ws (L.map Ty.l) (objs l) 8 b))/\Below w.heap.size w w':=by
 refine iO 96 A TA SA OA (objs l) _ c n tc tn sc sn oc (objs l).length mb w rfl hm hO (λ_ _=>by kernel_rfl) (λk h W g=>?_);obtain⟨a,z,d,f,i,e,-⟩:=fW hl (kqm h);rw[e,kw];have j:(!wrB ws (L.map Ty.l) (objs l) a z d i f 8)=(decide (d<L.length)&&aP (((L.map Ty.l)[d]?).getD []).length==z):=by unfold wrB;rw[if_neg (by decide),if_pos rfl,kqs];cases decide (d<L.length)<;>simp[bne]
 rw[j];exact An A TA SA OA L c n tc tn sc sn oc (objs l).length mb a z d f 1 i W ht hk (hL.up g g.size)
theorem pk{a z ty nx:Nat}{mk:Bool}(hT:L.map Ty.l=T)(h:wrK ws T O 8 ⟨(a:Int),(z:Int),1,(ty:Int),mk,nx⟩=false):∃h:ty<L.length,z=aP L[ty].l.length/\(T[ty]?).getD []=L[ty].l:=by
 rw[kw] at h;unfold wrB at h;rw[if_neg (by decide),if_pos rfl,kzw,kky,kqo,kqq,<-hT,kqs] at h;have e:(T[ty]?).getD []=(L[ty]'h.1).l:=by rw[<-hT];simp[h.1]
 refine⟨h.1,?_,e⟩;rw[<-e,<-hT];exact h.2.symm
theorem xo(hl:blocks ws 128=some l)(hm:(objs l).length<=1000000)(hn:ws.length=n)(hn2:n<=2048)(ht:L.length=tn)(hk:∀x∈L,b8 x.l=0/\kSz x.l=aP x.l.length/\x.l.length<=8)(h8:∀b∈objs l,wrK ws (L.map Ty.l) (objs l) 8 b=false)(hO:RdB w w.heap.size OA (objs l))(hL:RdL w w.heap.size TA L)(hR:RdW w w.heap.size A ws):
 Calls prog 100 #[.agg #[.slice A n c,.slice TA tn tc,.slice SA sn sc,.slice OA (objs l).length oc,.map (some mb)],.func (.func 97) #[.agg #[.slice A n c,.slice TA tn tc,.slice SA sn sc,.slice OA (objs l).length oc,.map (some mb)]] #[]] w λe w'=>e=.returned (.bool ((objs l).all λb=>!wrK ws (L.map Ty.l) (objs l) 9 b))/\Below w.heap.size w w':=by
 refine iO 97 A TA SA OA (objs l) _ c n tc tn sc sn oc (objs l).length mb w rfl hm hO (λ_ _=>by kernel_rfl) (λk h W i=>?_);obtain⟨a,z,g,m,j,e,-,haz,-⟩:=fW hl (kqm h);have f:=h8 _ (kqm h);rw[e] at f |-;obtain⟨d,q,p⟩:=pk rfl f;rw[kw];have o:wrB ws (L.map Ty.l) (objs l) a z g j m 9=(decide (L[g].l.length+2<z)&&wd ws (a+2+L[g].l.length) != 0):=by unfold wrB;rw[if_neg (by decide),if_neg (by decide),if_pos rfl,p]
 rw[o];exact vY A TA SA OA ws L c n tc tn sc sn oc (objs l).length mb a z g m 1 j W hn hn2 ht d (hk _ (kqm d)).2.2 q (by omega) (hR.up i i.size) (hL.up i i.size)
theorem xJ(hl:blocks ws 128=some l)(hm:(objs l).length<=1000000)(hn:ws.length=n)(hn2:n<=2048)(ht:L.length=tn)(ho:∀x∈ws,x<18446744073709551616)(hk:∀x∈L,b8 x.l=0/\kSz x.l=aP x.l.length/\x.l.length<=8)(h8:∀b∈objs l,wrK ws (L.map Ty.l) (objs l) 8 b=false)(hO:RdB w w.heap.size OA (objs l))(hL:RdL w w.heap.size TA L)(hR:RdW w w.heap.size A ws):
 Calls prog 100 #[.agg #[.slice A n c,.slice TA tn tc,.slice SA sn sc,.slice OA (objs l).length oc,.map (some mb)],.func (.func 98) #[.agg #[.slice A n c,.slice TA tn tc,.slice SA sn sc,.slice OA (objs l).length oc,.map (some mb)]] #[]] w λe w'=>e=.returned (.bool ((objs l).all λb=>!wrK ws (L.map Ty.l) (objs l) 10 b))/\Below w.heap.size w w':=by
 refine iO 98 A TA SA OA (objs l) _ c n tc tn sc sn oc (objs l).length mb w rfl hm hO (λ_ _=>by kernel_rfl) (λk h W j=>?_);obtain⟨a,z,g,o,m,e,-,haz,-⟩:=fW hl (kqm h);have f:=h8 _ (kqm h);rw[e] at f |-;obtain⟨d,r,q⟩:=pk rfl f;rw[kw];have p:wrB ws (L.map Ty.l) (objs l) a z g m o 10=((List.range L[g].l.length).any λi=>wrF ws L[g].l (objs l) a 10 i):=by unfold wrB;rw[if_neg (by decide),if_neg (by decide),if_neg (by decide),q]
 rw[p];exact vO A TA SA OA ws L (objs l) c n tc tn sc sn oc (objs l).length mb a z g o 1 m W hn hn2 ht d (hk _ (kqm d)).2.2 r (by omega) (hR.up j j.size) (hL.up j j.size) ho
theorem Eu(hl:blocks ws 128=some l)(hm:(objs l).length<=1000000)(hn:ws.length=n)(hn2:n<=2048)(ht:L.length=tn)(ho:∀x∈ws,x<18446744073709551616)(hk:∀x∈L,b8 x.l=0/\kSz x.l=aP x.l.length/\x.l.length<=8)(h8:∀b∈objs l,wrK ws (L.map Ty.l) (objs l) 8 b=false)(hO:RdB w w.heap.size OA (objs l))(hL:RdL w w.heap.size TA L)(hR:RdW w w.heap.size A ws)(hM:w.ownsMap prog 3 (plainElem prog 4) mb (objs l).length (gH ((objs l).map Bk.at_) (objs l).length)):
 Calls prog 100 #[.agg #[.slice A n c,.slice TA tn tc,.slice SA sn sc,.slice OA (objs l).length oc,.map (some mb)],.func (.func 99) #[.agg #[.slice A n c,.slice TA tn tc,.slice SA sn sc,.slice OA (objs l).length oc,.map (some mb)]] #[]] w λe w'=>e=.returned (.bool ((objs l).all λb=>!wrK ws (L.map Ty.l) (objs l) 11 b))/\Below w.heap.size w w':=by
 refine iO 99 A TA SA OA (objs l) _ c n tc tn sc sn oc (objs l).length mb w rfl hm hO (λ_ _=>by kernel_rfl) (λk h W d=>?_);obtain⟨a,z,j,o,m,e,-,haz,-⟩:=fW hl (kqm h);have g:=h8 _ (kqm h);rw[e] at g |-;obtain⟨f,t,s⟩:=pk rfl g;rw[kw];have p:wrB ws (L.map Ty.l) (objs l) a z j m o 11=((List.range L[j].l.length).any λi=>wrF ws L[j].l (objs l) a 11 i):=by unfold wrB;rw[if_neg (by decide),if_neg (by decide),if_neg (by decide),s]
 rw[p];refine DY A TA SA OA ws L (objs l) c n tc tn sc sn oc (objs l).length mb a z j o 1 m W hn hn2 ht f (hk _ (kqm f)).2.2 t (by omega) (hR.up d d.size) (hL.up d d.size) ho (λb d=>?_) (bV hM (d.block _ hM.lt));obtain⟨r,z',ty',nx',mk',q,-,haz',hz2,-⟩:=fW hl d;rw[q];show (r:Int)<n;omega
end
def yI (ws:List Nat) (e:Ending):Prop:=∃r:Int,e=.returned (.tuple #[.int .i64 r,.int .i64 (jX ws.length)])/\0<=r/\(al (ws.length:Int)=true->(r=0↔lay ws=true))
def Im (ws:List Nat) (T:List (List Nat)) (O:List Bk) (k:Nat):Prop:=∀r,7<=r->r<7+k->∀b∈O,wrK ws T O r b=false
theorem zS(h:Im ws T O k)(h1:(O.all λb=>!wrK ws T O (7+k) b)=true):Im ws T O (k+1):=λr d hr b c=>by
 rcases kq9 r (7+k) with a|a
 .exact h r d a b c
 .have:r=7+k:=by omega
  subst this;have:=kzq.1 h1 b c
  simpa using this
theorem EE(hk:k<5)(h1:(O.all λb=>!wrK ws T O (7+k) b)=false):¬ ∀r,7<=r->r<12->∀b∈O,wrK ws T O r b=false:=λh=>by rw[kzq.2 λb a=>by rw[h (7+k) (by omega) (by omega) b a];rfl] at h1;cases h1
def mV (O:List Bk) (S:List Sl) (k:Nat):Prop:=∀i (h:i<S.length),i<k->iH O S[i]=true
theorem qA{S:List Sl}(hk:k<S.length)(h:mV O S k)(h1:iH O S[k]=true):mV O S (k+1):=λi b hlt=>by
 rcases kq9 i k with a|a
 .exact h i b a
 .have:i=k:=by omega
  subst this;exact h1
theorem wo(A:Option Addr)(ws:List Nat)(c n:Nat)(w:World)(hn:ws.length=n)(hm:n<=9223372036854775807)(hc:n<=c)(hr:RdW w w.heap.size A ws)(ho:∀x∈ws,x<18446744073709551616):
 Calls prog 51 #[.slice A n c] w λe w'=>yI ws e/\Below w.heap.size w w':=by
 subst hn;have Jb:=hid (aF A ws.length c w hm);cases hs:al (ws.length:Int)
 .have HE:=hid (bA hs);have J:Hid (yI ws (.returned (.tuple #[.int .i64 0,.int .i64 8]))):=hid ⟨0,by rw[HE.out],kk6 _,λh=>by rw[hs] at h;cases h⟩;rw[HE.out] at Jb;clear hs hr ho hm hc;go_enter func51,ntmps51;go_wp2_with fail;refine Jb.out.mono ?_;rintro e w1 ⟨rfl,rfl⟩;go_wp2;go_ret2;exact⟨J.out,kql _ _⟩
 have HE:=hid (aW hs);have Q:=(ac _).1 hs;have Jt:=hid (Az A ws c ws.length w rfl hs hc hr ho);have Y:Hid (∀r:Int,0<r->lay ws=false->yI ws (.returned (.tuple #[.int .i64 r,.int .i64 0]))):=hid λr h h2=>⟨r,by rw[HE.out],by omega,λ_=>⟨λh3=>by omega,λh3=>by rw[h2] at h3;cases h3⟩⟩;have Jh:Hid (lay ws=true->yI ws (.returned (.tuple #[.int .i64 0,.int .i64 0]))):=hid λh=>⟨0,by rw[HE.out],kk6 _,λ_=>⟨λ_=>h,λ_=>rfl⟩⟩;rw[HE.out] at Jb;have HR:=hid hr;have Ka:=hid ho;have hlen:256<=ws.length/\ws.length<=2048:=by omega
 have hi5:(prog.info? 163).map (·.size)=some (#[.slice none 0 0,.slice none 0 0,.slice none 0 0,.slice none 0 0,.map none]:Array Value).size:=tU;unfold PtRes at Jt;clear hs hr ho hm hc Q;go_enter func51,ntmps51;go_wp2_with fail;refine Jb.out.mono ?_;rintro e w1 ⟨rfl,rfl⟩;go_wp2_with fail;refine Jt.out.mono ?_;rintro e I ⟨⟨r,sv,rfl,Kr,Z,K⟩,Jl⟩;have Jp:=hid Jl;have Ja:=Jl.size;clear Jl;by_cases h0:r=0
 .subst h0;obtain⟨t,l,P⟩:=K rfl;have PQ:=hid P;obtain⟨z,a,m,d,B,o,y,L,rfl,hL,Jg,hS,hO,hM⟩:=P.mem;have Jm:=hid (nB P.ty P.bl);have HK:=hid (zy P.tys Jg);have Ke:=hid hL;have Kl:=hid hS;have Km:=hid hO;have Kh:=hid hM;have Ko:=hid Jg;have Jc:(objs l).length<=1000000:=by have:=(bq (by omega) _ _ P.bl (by omega) (by omega) (by omega)).1;have:=kxi (λb:Bk=>b.kind==1) l;unfold objs;omega
  have V:=hid Jc;have Kd:=hM.lt;clear Z K P hL Jg hS hO hM Jc Kr;have Jf:((I.alloc (.cells #[.slice A ws.length c,.slice z L.length d,.slice a 16 B,.slice m (objs l).length o,.map (some y)] 163)).alloc (.cells #[.func (.func 95) #[.agg #[.slice A ws.length c,.slice z L.length d,.slice a 16 B,.slice m (objs l).length o,.map (some y)]] #[],.func (.func 96) #[.agg #[.slice A ws.length c,.slice z L.length d,.slice a 16 B,.slice m (objs l).length o,.map (some y)]] #[],.func (.func 97) #[.agg #[.slice A ws.length c,.slice z L.length d,.slice a 16 B,.slice m (objs l).length o,.map (some y)]] #[],.func (.func 98) #[.agg #[.slice A ws.length c,.slice z L.length d,.slice a 16 B,.slice m (objs l).length o,.map (some y)]] #[],.func (.func 99) #[.agg #[.slice A ws.length c,.slice z L.length d,.slice a 16 B,.slice m (objs l).length o,.map (some y)]] #[]] 166)).heap.size=I.heap.size+1+1:=by simp
  have b24:=((kql I.heap.size I).alloc (kqg _) (.cells #[.slice A ws.length c,.slice z L.length d,.slice a 16 B,.slice m (objs l).length o,.map (some y)] 163)).alloc (by simp) (.cells #[.func (.func 95) #[.agg #[.slice A ws.length c,.slice z L.length d,.slice a 16 B,.slice m (objs l).length o,.map (some y)]] #[],.func (.func 96) #[.agg #[.slice A ws.length c,.slice z L.length d,.slice a 16 B,.slice m (objs l).length o,.map (some y)]] #[],.func (.func 97) #[.agg #[.slice A ws.length c,.slice z L.length d,.slice a 16 B,.slice m (objs l).length o,.map (some y)]] #[],.func (.func 98) #[.agg #[.slice A ws.length c,.slice z L.length d,.slice a 16 B,.slice m (objs l).length o,.map (some y)]] #[],.func (.func 99) #[.agg #[.slice A ws.length c,.slice z L.length d,.slice a 16 B,.slice m (objs l).length o,.map (some y)]] #[]] 166)
  have BX4:=(Bx.new I 163 #[.slice A ws.length c,.slice z L.length d,.slice a 16 B,.slice m (objs l).length o,.map (some y)]).alloc (.cells #[.func (.func 95) #[.agg #[.slice A ws.length c,.slice z L.length d,.slice a 16 B,.slice m (objs l).length o,.map (some y)]] #[],.func (.func 96) #[.agg #[.slice A ws.length c,.slice z L.length d,.slice a 16 B,.slice m (objs l).length o,.map (some y)]] #[],.func (.func 97) #[.agg #[.slice A ws.length c,.slice z L.length d,.slice a 16 B,.slice m (objs l).length o,.map (some y)]] #[],.func (.func 98) #[.agg #[.slice A ws.length c,.slice z L.length d,.slice a 16 B,.slice m (objs l).length o,.map (some y)]] #[],.func (.func 99) #[.agg #[.slice A ws.length c,.slice z L.length d,.slice a 16 B,.slice m (objs l).length o,.map (some y)]] #[]] 166)
  have BF4:=Bx.new (I.alloc (.cells #[.slice A ws.length c,.slice z L.length d,.slice a 16 B,.slice m (objs l).length o,.map (some y)] 163)) 166 #[.func (.func 95) #[.agg #[.slice A ws.length c,.slice z L.length d,.slice a 16 B,.slice m (objs l).length o,.map (some y)]] #[],.func (.func 96) #[.agg #[.slice A ws.length c,.slice z L.length d,.slice a 16 B,.slice m (objs l).length o,.map (some y)]] #[],.func (.func 97) #[.agg #[.slice A ws.length c,.slice z L.length d,.slice a 16 B,.slice m (objs l).length o,.map (some y)]] #[],.func (.func 98) #[.agg #[.slice A ws.length c,.slice z L.length d,.slice a 16 B,.slice m (objs l).length o,.map (some y)]] #[],.func (.func 99) #[.agg #[.slice A ws.length c,.slice z L.length d,.slice a 16 B,.slice m (objs l).length o,.map (some y)]] #[]];rw[kqn] at BF4;have C:=hid (λW (Q:Below I.heap.size I W)=>(And.intro (Km.out.up Q Q.size) (And.intro (Ke.out.up Q Q.size) (And.intro (Kl.out.up Q Q.size) (bV Kh.out (Q.block _ Kd))))));go_wp2_with fail
  obtain⟨M,Jr⟩:=xq ((I.alloc (.cells #[.slice A ws.length c,.slice z L.length d,.slice a 16 B,.slice m (objs l).length o,.map (some y)] 163)).alloc (.cells #[.func (.func 95) #[.agg #[.slice A ws.length c,.slice z L.length d,.slice a 16 B,.slice m (objs l).length o,.map (some y)]] #[],.func (.func 96) #[.agg #[.slice A ws.length c,.slice z L.length d,.slice a 16 B,.slice m (objs l).length o,.map (some y)]] #[],.func (.func 97) #[.agg #[.slice A ws.length c,.slice z L.length d,.slice a 16 B,.slice m (objs l).length o,.map (some y)]] #[],.func (.func 98) #[.agg #[.slice A ws.length c,.slice z L.length d,.slice a 16 B,.slice m (objs l).length o,.map (some y)]] #[],.func (.func 99) #[.agg #[.slice A ws.length c,.slice z L.length d,.slice a 16 B,.slice m (objs l).length o,.map (some y)]] #[]] 166));rw[Jr] at Jf b24 BX4 BF4 |-;have E:=hid b24;have N:=hid (Jp.out.trans (b24.mono Ja));have BX:=hid BX4;have BF:=hid BF4;have HS4:=hid Jf
  have Kp:Hid (∀k,k<5->Im ws (eB ws t 8) (objs l) k->∃f,(#[.func (.func 95) #[.agg #[.slice A ws.length c,.slice z L.length d,.slice a 16 B,.slice m (objs l).length o,.map (some y)]] #[],.func (.func 96) #[.agg #[.slice A ws.length c,.slice z L.length d,.slice a 16 B,.slice m (objs l).length o,.map (some y)]] #[],.func (.func 97) #[.agg #[.slice A ws.length c,.slice z L.length d,.slice a 16 B,.slice m (objs l).length o,.map (some y)]] #[],.func (.func 98) #[.agg #[.slice A ws.length c,.slice z L.length d,.slice a 16 B,.slice m (objs l).length o,.map (some y)]] #[],.func (.func 99) #[.agg #[.slice A ws.length c,.slice z L.length d,.slice a 16 B,.slice m (objs l).length o,.map (some y)]] #[]]:Array Value)[k]? = some f/\∀W,Below M.heap.size M W->Calls prog 100 #[.agg #[.slice A ws.length c,.slice z L.length d,.slice a 16 B,.slice m (objs l).length o,.map (some y)],f] W λe w'=>e=.returned (.bool ((objs l).all λb=>!wrK ws (eB ws t 8) (objs l) (7+k) b))/\Below W.heap.size W w'):=hid λk hk Ju=>by
   have hP:=PQ.out;have F:∀W,Below M.heap.size M W->Below I.heap.size I W:=λW D=>E.out.trans (D.mono E.out.size);rw[<-Ko.out] at Ju |-;have Jn:=λW (D:Below M.heap.size M W)=>HR.out.up (Jp.out.trans ((F W D).mono Ja)) (kza Ja (F W D).size);have h8:2<=k->∀b∈objs l,wrK ws (L.map Ty.l) (objs l) 8 b=false:=λh b Q=>Ju 8 (by omega) (by omega) b Q;rcases (show k=0\/k=1\/k=2\/k=3\/k=4 by omega) with rfl|rfl|rfl|rfl|rfl
   .exact ⟨_,rfl,λW D=>CK hP.bl V.out (C.out W (F W D)).1⟩
   .exact ⟨_,rfl,λW D=>Ad hP.bl V.out rfl HK.out (C.out W (F W D)).1 (C.out W (F W D)).2.1⟩
   .exact ⟨_,rfl,λW D=>xo hP.bl V.out rfl (by omega) rfl HK.out (h8 (by omega)) (C.out W (F W D)).1 (C.out W (F W D)).2.1 (Jn W D)⟩
   .exact ⟨_,rfl,λW D=>xJ hP.bl V.out rfl (by omega) rfl Ka.out HK.out (h8 (by omega)) (C.out W (F W D)).1 (C.out W (F W D)).2.1 (Jn W D)⟩
   exact⟨_,rfl,λW D=>Eu hP.bl V.out rfl (by omega) rfl Ka.out HK.out (h8 (by omega)) (C.out W (F W D)).1 (C.out W (F W D)).2.1 (Jn W D) (C.out W (F W D)).2.2.2⟩
  have Kq:Hid (Im ws (eB ws t 8) (objs l) 0):=hid λr h1 h2=>by omega
  have Ku:=hid (λk h h1=>zS (ws:=ws) (T:=eB ws t 8) (O:=objs l) (k:=k) h h1);have Ks:=hid (λk h h1=>EE (ws:=ws) (T:=eB ws t 8) (O:=objs l) (k:=k) h h1);have Kn:I.heap.size+1<M.heap.size:=by omega
  have Ji:I.heap.size<M.heap.size:=by omega
  clear Jr Jf b24 BX4 BF4;go_loopw [36] (λi wr=>∃k:Nat,k<=5/\i=.int .i64 k/\Hid (Im ws (eB ws t 8) (objs l) k)/\Below M.heap.size M wr) (λi _=>5-(intOf i).toNat)
  case atStart=>exact⟨0,by omega,rfl,Kq,kql _ _⟩
  obtain⟨k,hk,rfl,HT,G⟩:=hrel;by_cases H:k<5
  .obtain ⟨f,hf,hC⟩:=Kp.out k H HT.out;have hc0:=(G.cell (p:=⟨I.heap.size+1,k,none⟩) Kn).trans ((BF.out.cell k).trans hf);have HC:=hid (hC wr G);have Jz:=hid (Ku.out k HT.out);have Jv:=hid (Ks.out k H);obtain⟨q,hq⟩:=xq (((objs l).all λb=>!wrK ws (eB ws t 8) (objs l) (7+k) b));rw[hq] at HC Jz Jv;obtain⟨q0,q1,q2,q3,q4,-,-⟩:=(BX.out.up G Ji).c5;have Eq:=hid G;have hz:=G.size;have hki:(k:Int)<5:=by omega
   have hk0:(0:Int)<=(k:Int):=by omega
   clear hf hC hq G;cases q
   .have J:=hid (Y.out (7+k) (by omega) (by
     cases hq:lay ws with
     | false=>rfl
     | true=>exact absurd (Jm.out.1 hq).2.2.2.2.2.1 (Jv.out rfl)))
    go_wp2_with fail;refine HC.out.mono ?_;rintro e w5 ⟨rfl,R⟩;have Jj:=hid (N.out.trans ((Eq.out.trans (R.mono hz)).mono N.out.size));clear R;go_wp2;go_ret2;exact⟨J.out,Jj.out⟩
   have J:=hid (Jz.out rfl);go_wp2_with fail;refine HC.out.mono ?_;rintro e w5 ⟨rfl,R⟩;have Jj:=hid (Eq.out.trans (R.mono hz));clear R;go_wp2;go_roundw
   case rel=>exact⟨k+1,by omega,by go_num,J,Jj.out⟩
   case measure=>simp[intOf];omega
  have Kf:=hid (show Im ws (eB ws t 8) (objs l) 5 from λr h1 h2 b Q=>HT.out r h1 (by omega) b Q);have Jd:decide ((k:Int)<5)=false:=by rw[kqh];omega
  have X:decide (k<5)=false:=by rw[kqh];exact H
  obtain⟨-,-,q2,-,-,-,-⟩:=(BX.out.up G Ji).c5;have Eq:=hid G;clear H hk HT G;go_wp2_with fail;have Kg:Hid (mV (objs l) (slL ws) 0):=hid λi h h1=>by omega
  have Kj:=hid (λk hk h h1=>qA (O:=objs l) (S:=slL ws) (k:=k) hk h h1);have Jq:=hid (eg ws);have Kt:Hid (mV (objs l) (slL ws) 16->lay ws=true):=hid λh=>Jm.out.2 ⟨PQ.out.z1,PQ.out.z2,PQ.out.tys,PQ.out.sls,PQ.out.adj,Kf.out,λs hs=>by
   obtain⟨i,hi,rfl⟩:=kqu hs;exact h i hi (by rw[Jq.out] at hi;exact hi)⟩
  have Kc:Hid (∀k (hk:k<(slL ws).length),iH (objs l) (slL ws)[k]=false->lay ws=false):=hid λk hk h=>by
   cases hq:lay ws with
   | false=>rfl
   | true=>rw[(Jm.out.1 hq).2.2.2.2.2.2 _ (kqm hk)] at h;cases h
  have Kb:Hid (∀k (hk:k<(slL ws).length),∃g v:Nat,(slL ws)[k]=⟨(g:Int),(slL ws)[k].used,(v:Int)⟩/\v<4294967296):=hid λk hk=>by
   rw[mt ws hk];exact⟨_,_,rfl,kz3 _ (by decide)⟩
  clear Jd X q2;go_loopw [51] (λi wr=>∃k:Nat,k<=16/\i=.int .i64 k/\Hid (mV (objs l) (slL ws) k)/\Below M.heap.size M wr) (λi _=>16-(intOf i).toNat)
  case atStart=>exact⟨0,by omega,rfl,Kg,Eq.out⟩
  obtain⟨j,hj,rfl,HT,G⟩:=hrel;by_cases H:j<16
  .have U:j<(slL ws).length:=by rw[Jq.out];exact H
   obtain⟨bS,oS,rfl,hbS,p0,p1,p2⟩:=RdS.at_ (show RdS wr wr.heap.size a (slL ws) from (C.out wr (E.out.trans (G.mono E.out.size))).2.2.1) U;obtain⟨g,v,hx,hv⟩:=Kb.out j U;have Jk:=hid (Kj.out j U HT.out);have Jw:=hid (Kc.out j U);obtain⟨x,Jy⟩:=xq ((slL ws)[j]);rw[Jy] at p0 p1 p2 hx Jk Jw;obtain⟨u,hu⟩:=xq x.used;rw[hu] at p1 hx;subst hx;dsimp only at p0 p2;have hjj:(j:Int)<16:=by omega
   have hj0:(0:Int)<=(j:Int):=by omega
   obtain⟨-,-,-,-,q4,-,-⟩:=(BX.out.up G Ji).c5;have hgw:I.heap.size<wr.heap.size:=by have:=G.size;omega
   have hz:=G.size;have Je:=hid (G.alloc hz (.cells #[.int .i64 (g:Int),.bool u,.int .i64 (v:Int)] 52));have Kk:=hid ((C.out wr (E.out.trans (G.mono E.out.size))).2.2.2.alloc (.cells #[.int .i64 (g:Int),.bool u,.int .i64 (v:Int)] 52));clear Jy hu U G;cases u
   .have J:=hid (Jk.out rfl);go_wp2;go_roundw
    case rel=>exact⟨j+1,by omega,by go_num,J,Je.out⟩
    case measure=>simp[intOf];omega
   have Js:(Lit.int .i64 (v:Int)).wf=true:=by simp[Lit.wf,IntKind.min,IntKind.max,IntKind.signed,IntKind.bits];omega
   have Ki:=nk Kk.out rp underlying161 underlying4 (vf _) (keyOf_int_mk (P:=prog) underlying3 Js) (c:=lU (objs l) v) (by rw[rj,un]);have Jo:Hid (iH (objs l) ⟨(g:Int),true,(v:Int)⟩=lU (objs l) v):=hid (by unfold iH;simp);obtain⟨q,hq⟩:=xq (lU (objs l) v);rw[hq] at Ki Jo;clear Js hq hv;cases q
   .have J:=hid (Y.out 12 (by decide) (Jw.out Jo.out));go_wp2;go_ret2;exact⟨J.out,N.out.trans (Je.out.mono N.out.size)⟩
   have J:=hid (Jk.out Jo.out);go_wp2;go_roundw
   case rel=>exact⟨j+1,by omega,by go_num,J,Je.out⟩
   case measure=>simp[intOf];omega
  have Jd:decide ((j:Int)<16)=false:=by rw[kqh];omega
  have X:decide (j<16)=false:=by rw[kqh];exact H
  have J:=hid (Jh.out (Kt.out (by have:=HT.out;rwa [show j=16 by omega] at this)));clear H hj HT;go_wp2;go_ret2;exact⟨J.out,N.out.trans (G.mono N.out.size)⟩
 obtain⟨hl,rfl⟩:=Z h0;have J:=hid (Y.out r (by omega) hl);have e1:(r != 0)=true:=by rw[kqt];exact h0
 clear Z K;go_wp2;go_ret2;exact⟨J.out,Jp.out.alloc Ja _⟩
theorem mM(A:Option Addr)(ws:List Nat)(c n:Nat)(w:World)(hn:ws.length=n)(hm:n<=9223372036854775807)(hc:n<=c)(hr:RdW w w.heap.size A ws)(ho:∀x∈ws,x<18446744073709551616):
 Calls prog 16 #[.slice A n c] w λe w'=>e=.returned (.int .i64 (cH ws))/\Below w.heap.size w w':=by
 subst hn;have f:=hid (wo A ws c ws.length w rfl hm hc hr ho);unfold yI at f;clear hr ho hc hm;cases d:al (ws.length:Int)
 .have g:Hid (cH ws=8):=hid (by unfold cH;rw[d];rfl);rw[bA d] at f;clear d;go_enter func16,ntmps16;go_wp2_with fail;refine f.out.mono ?_;rintro e k ⟨⟨r,rfl,-,-⟩,a⟩;go_wp2;go_ret;exact⟨by rw[g.out];rfl,a⟩
 have g:Hid (cH ws=if lay ws=true then 0 else 50):=hid (by unfold cH;rw[d];rfl);rw[aW d] at f;have m:=hid d;clear d;go_enter func16,ntmps16;go_wp2_with fail;refine f.out.mono ?_;rintro e k ⟨⟨r,rfl,o,j⟩,a⟩;have i:=hid (j m.out);clear j;by_cases b:r=0
 .have h:=hid (i.out.1 b);subst b;go_wp2;go_ret;exact⟨by rw[g.out,h.out];rfl,a⟩
 have h:Hid (lay ws=false):=hid (by
  cases l:lay ws with
  | false=>rfl
  | true=>exact absurd (i.out.2 l) b)
 have d1:decide ((0:Int)<r)=true:=by rw[kqo];omega
 clear b o;go_wp2;go_ret;exact⟨by rw[g.out,h.out];rfl,a⟩
end Go.Proofs.YtpcajamacpbjcaaGreat
