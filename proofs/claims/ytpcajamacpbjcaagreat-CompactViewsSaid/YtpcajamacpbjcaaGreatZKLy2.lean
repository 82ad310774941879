/- Texts laid together: LyE LyF LyG LyH. -/
import Derived.Test.YtpcajamacpbjcaaGreatZKLy1
import Derived.Test.YtpcajamacpbjcaaGreatZKCp2
import Derived.Laws.EntriesVeiled
set_option maxHeartbeats 16000000
set_option maxRecDepth 100000
set_option linter.all false
namespace Go.Proofs.YtpcajamacpbjcaaGreat
open Lib (hid)
open Go.RowKit Go.Maps
variable {T:List (List Nat)}{O:List Bk}{ws:List Nat}{k:Nat}
open Go.Proofs.Tryz
theorem iS(f:FuncId)(A TA SA OA:Option Addr)(O:List Bk)(p:Bk->Bool)(c n tc tn sc sn oc on mb:Nat)(w:World)(ho:O.length=on)(hm:on<=1000000)(hO:RdB w w.heap.size OA O)(hcf:∀args W,(callFunc f args).run prog W=.ok (.enter f args) W)(HF:∀k (h:k<O.length) W,Below w.heap.size w W->Calls prog f #[.agg #[.slice A n c,.slice TA tn tc,.slice SA sn sc,.slice OA on oc,.map (some mb)],O[k].val] W λe w'=>e=.returned (.bool (p O[k]))/\Below W.heap.size W w'):
 Calls prog 100 #[.agg #[.slice A n c,.slice TA tn tc,.slice SA sn sc,.slice OA on oc,.map (some mb)],.func (.func f) #[.agg #[.slice A n c,.slice TA tn tc,.slice SA sn sc,.slice OA on oc,.map (some mb)]] #[]] w λe w'=>e=.returned (.bool (O.all p))/\Below w.heap.size w w':=by
 subst ho;have C:=hid (Bx.new w 163 #[.slice A n c,.slice TA tn tc,.slice SA sn sc,.slice OA O.length oc,.map (some mb)]);have K:=hid ((kqk w.heap.size w).alloc (kqb _) (.cells #[.slice A n c,.slice TA tn tc,.slice SA sn sc,.slice OA O.length oc,.map (some mb)] 163));have Z:=hid hO;have G:=hid HF;have u:=hid hcf;have Y:Hid ((∀j (h:j<O.length),p O[j]=true)->O.all p=true):=hid λh=>kzq.2 λx y=>by
  obtain⟨j,m,rfl⟩:=kqv y;exact h j m
 have V:Hid (∀j (h:j<O.length),p O[j]=false->O.all p=false):=hid λj m h=>by
  cases B:O.all p with
  | false=>rfl
  | true=>rw[kzq.1 B _ (kqs m)] at h;cases h
 obtain⟨F,r⟩:=xq (w.alloc (.cells #[.slice A n c,.slice TA tn tc,.slice SA sn sc,.slice OA O.length oc,.map (some mb)] 163));have D:=hid (show Below w.heap.size w F by rw[<-r];exact K.out);rw[r] at C;obtain⟨q0,q1,q2,q3,q4,-,-⟩:=C.out.c5;clear hO HF C K hcf;go_enter func100,ntmps100;go_wp2_with fail;clear r;go_loopw [10] (λi wr=>∃k:Nat,k<=O.length/\i=.int .i64 k/\Hid (∀j (h:j<O.length),j<k->p O[j]=true)/\Below w.heap.size w wr) (λi _=>O.length-(intOf i).toNat)
 case atStart=>exact⟨0,kqx _,rfl,hid λj _ h=>absurd h (by omega),D.out⟩
 obtain⟨k,hk,rfl,H,z⟩:=hrel;have hz:=z.size;by_cases d:k<O.length
 .obtain ⟨b,off,rfl,U,Q,P,J,I,N,M⟩:=RdB.at_ (Rd.below Z.out z) d;have t:=hid (G.out k d);have l:Hid (p O[k]=true->∀j (h:j<O.length),j<k+1->p O[j]=true):=hid λh1 j m h=>by
   rcases kq6 j k with L|L
   .exact H.out j m L
   have:j=k:=by omega
   subst this;exact h1
  have o:=hid (V.out k d);obtain⟨x,y⟩:=xq (O[k]);rw[y] at Q P J I N M t l o;obtain⟨q,B⟩:=xq (p x);rw[B] at t l o;obtain⟨R,xs,xk,T,X,xn⟩:=x;dsimp only[Bk.val] at Q P J I N M t;have hki:(k:Int)<(O.length:Int):=by omega
  have hk0:(0:Int)<=(k:Int):=by omega
  have a:=hid (z.alloc hz (.cells #[.int .i64 R,.int .i64 xs,.int .i64 xk,.int .i64 T,.bool X,.int .u64 (xn:Int)] 55));clear y B U;cases q
  .have v:=hid (o.out rfl);go_wp2_with fail;rw[u.out];simp only[Oper.upon];refine (t.out _ a.out).mono ?_;rintro e S ⟨rfl,g⟩;have s:=hid (a.out.trans (g.mono a.out.size));clear g;go_wp2;go_ret;exact⟨by rw[v.out];rfl,s.out⟩
  have v:=hid (l.out rfl);go_wp2_with fail;rw[u.out];simp only[Oper.upon];refine (t.out _ a.out).mono ?_;rintro e S ⟨rfl,g⟩;have s:=hid (a.out.trans (g.mono a.out.size));clear g;go_wp2;go_roundw
  case rel=>exact⟨k+1,by omega,by go_num,v,s.out⟩
  case measure=>simp[intOf];omega
 have E:k=O.length:=by omega
 have v:=hid (Y.out λj m=>H.out j m (by omega));have hend:decide ((k:Int)<(O.length:Int))=false:=by rw[kqc];omega
 have hendn:decide (k<O.length)=false:=by rw[kqc];exact d
 clear E d hk;go_wp2;go_ret;exact⟨by rw[v.out];rfl,z⟩
theorem tZ:(prog.info? 163).map (·.size)=some 5:=by kernel_rfl
theorem zeroSg(w:World):(zeroValue 163).run prog w=.ok (.agg #[.slice none 0 0,.slice none 0 0,.slice none 0 0,.slice none 0 0,.map none]) w:=by kernel_rfl
theorem fe{fn:Func}{p q:Tmp}(h:fn.results=#[.cell p 163,.tmp q])(tmps:Array Value){W:World}{g:Nat}{t:TypeId}{cs:Array Value}{u:Value}(hb:Bx W g t cs)(hs:cs.size=5)(hp:tmps.getD p undef=.pointer (some ⟨g,0,none⟩))(hq:tmps.getD q undef=u):
 (results fn tmps).run prog W=.ok (.tuple #[.agg cs,u]) W:=by
 have a:tmps[p]?.getD undef=.pointer (some ⟨g,0,none⟩):=by simpa using hp
 have b:tmps[q]?.getD undef=u:=by simpa using hq
 have d:(prog.info? 163).map (·.size)=some cs.size:=by rw[hs];exact tZ
 have c:=run_loadVar_row W g t 163 cs (0,0) _ hb underlying163 rfl d;simp[results,h,a,b,asAddr,c]
structure PtOk (ws:List Nat) (A:Option Addr) (n c:Nat) (w':World) (sv:Array Value) (t:Nat) (l:List Bk):Prop where
 ty:tyN ws=some t
 bl:blocks ws 128=some l
 z1:eY ws 16=true
 z2:eY ws 24=true
 tys:gH ws t=true
 sls:slsOk ws=true
 adj:jY l=true
 mem:∃(TA SA OA:Option Addr) (tc sc oc mb:Nat) (L:List Ty),sv=#[.slice A n c,.slice TA L.length tc,.slice SA 16 sc,.slice OA (aK l).length oc,.map (some mb)]/\RdL w' w'.heap.size TA L/\L.map Ty.l=gx ws t 8/\RdS w' w'.heap.size SA (slL ws)/\RdB w' w'.heap.size OA (aK l)/\w'.ownsMap prog 3 (plainElem prog 4) mb (aK l).length (gY ((aK l).map Bk.at_) (aK l).length)
def PtRes (ws:List Nat) (A:Option Addr) (n c:Nat) (e:Ending) (w':World):Prop:=∃(r:Int) (sv:Array Value),e=.returned (.tuple #[.agg sv,.int .i64 r])/\0<=r/\(r≠0->lay ws=false/\sv=#[.slice none 0 0,.slice none 0 0,.slice none 0 0,.slice none 0 0,.map none])/\(r=0->∃t l,PtOk ws A n c w' sv t l)
def CS (H:Nat) (ws:List Nat) (e:Ending) (w':World):Prop:=(dC ws=0->∃g,e=.returned (.tuple #[.slice (some ⟨g,0,none⟩) 16 16,.int .i64 (dC ws)])/\H<=g/\Bx w' g 118 ((slL ws).flatMap Sl.cells).toArray)/\(dC ws≠0->e=.returned (.tuple #[.slice none 0 0,.int .i64 (dC ws)]))
theorem Eo(A:Option Addr)(ws:List Nat)(c n:Nat)(w:World)(hn:ws.length=n)(hm:n<=9223372036854775807)(t:RdW w w.heap.size A ws)(ho:∀x∈ws,x<18446744073709551616):
 Calls prog 25 #[.slice A n c] w λe w'=>CS w.heap.size ws e w'/\Below w.heap.size w w':=by
 have k:=hid (yS A ws c n w hn hm t ho);clear t ho hn hm;have p:=gb;by_cases i:dC ws=0
 .have b:eQ ws=slL ws:=by simp[eQ,i]
  have D:=hid (And.intro i b);have K:=el ws;rw[i,Er i] at k;have d:(gR (slL ws)).size=48:=by rw[ic,el]
  obtain⟨l,o⟩:=xq (slL ws);have F:=hid o;rw[o] at d k K D;have C:Hid (gR l=(l.flatMap Sl.cells).toArray):=hid rfl;have J:=hid (kj l);obtain⟨cs,B⟩:=xq (gR l);rw[B] at k d C J;have q:(prog.info? 118).map (·.size)=some cs.size:=by rw[d];exact jU
  clear i b o B K p;go_enter func25,ntmps25;go_wp2_with fail;refine k.out.mono ?_;rintro e u ⟨rfl,a⟩;have E:=mu;have G:cs.size=bQ.size:=by rw[d,gb]
  have v:=Bx.new u 118 bQ;have H:=hid v;have s:=hid (a.alloc a.size (.cells bQ 118));have j:=a.size;clear v a;go_wp2_with (first
   | ((with_reducible refine bq 118 (.tmp 4) _ ?_);refine ai rfl _ _ _ rfl u.heap.size 118 bQ cs (by rfl) (by rfl) H.out G q J.out ?_;intro M g f;have y:=hid g;have m:=hid (f.below s.out j);clear g f))
  go_ret2;refine⟨⟨λ_=>⟨u.heap.size,by rw[D.out.1];rfl,j,?_⟩,λh=>absurd D.out.1 h⟩,m.out⟩;have:=y.out;rw[C.out] at this;rw[F.out];exact this
 have b:eQ ws=[]:=by simp[eQ,i]
 rw[B6 i] at k;obtain⟨r,t⟩:=xq (dC ws);have I:=hid t;rw[t] at k i;have L:=hid i;have hrn:(r != 0)=true:=by rw[kqt];exact i
 have j:=hid ll;have q:(prog.info? 118).map (·.size)=some bQ.size:=by rw[p];exact jU
 clear i b t p;go_enter func25,ntmps25;go_wp2_with fail;refine k.out.mono ?_;rintro e u ⟨rfl,a⟩;have E:=mu;have v:=Bx.new u 118 bQ;have H:=hid v;have s:=hid (a.alloc a.size (.cells bQ 118));have z:=a.size;clear v a;go_wp2_with (first
  | ((with_reducible refine bq 118 (.tmp 4) _ ?_);refine ai rfl _ _ _ rfl u.heap.size 118 bQ bQ (by rfl) (by rfl) H.out rfl q j.out ?_;intro M g f;have y:=hid g;have m:=hid (f.below s.out z);clear g f))
 go_ret2;exact⟨⟨λh=>absurd (I.out.symm.trans h) L.out,λ_=>by rw[I.out];rfl⟩,m.out⟩
structure PtS (wr:World) (H0 H3 H7 gs:Nat) (ws:List Nat) (TB AW:Option Addr) (td cW:Nat) (L:List Ty) (l:List Bk):Prop where
 x:Bx wr H0 163 #[.slice none 0 0,.slice none 0 0,.slice none 0 0,.slice none 0 0,.map none]
 t:te wr H3 (.slice TB L.length td) L
 s:Bx wr gs 118 ((slL ws).flatMap Sl.cells).toArray
 b:wr.ownsRow H7 55 6 (.slice AW l.length cW) l.length (l.flatMap Bk.cells)
section
variable {wr wr':World} {H0 H3 H7 gs:Nat} {ws:List Nat} {TB AW:Option Addr} {td cW:Nat} {L:List Ty} {l:List Bk}
theorem PtS.alloc(h:PtS wr H0 H3 H7 gs ws TB AW td cW L l)(o:Obj):PtS (wr.alloc o) H0 H3 H7 gs ws TB AW td cW L l:=
 ⟨h.x.alloc o,⟨h.t.1.alloc o,λy a=>(h.t.2 y a).alloc o⟩,h.s.alloc o,h.b.alloc o⟩
theorem PtS.set_(h:PtS wr H0 H3 H7 gs ws TB AW td cW L l){p:Addr}(h0:H0≠p.block)(h3:p.block<H3)(h37:H3<=H7)(hg:H7<=gs)(u:Value):PtS (wr.setCell p u) H0 H3 H7 gs ws TB AW td cW L l:=
 ⟨h.x.far h0 u,⟨cy h.t.1 (eI h.t.1 h3).symm u,λy a=>cy (h.t.2 y a) (eI (h.t.2 y a) h3).symm u⟩,h.s.far (by omega) u,cy h.b (eI h.b (by omega)).symm u⟩
theorem PtS.grown(h:PtS wr H0 H3 H7 gs ws TB AW td cW L l){row:Option Nat}(hg:wr.grownBy wr' row)(h0:some H0≠row)(hgs:some gs≠row)(h1:(Value.slice TB L.length td).ownBlock=none\/(Value.slice TB L.length td).ownBlock≠row)(h2:∀y∈L,(Value.slice y.A y.l.length y.c).ownBlock=none\/(Value.slice y.A y.l.length y.c).ownBlock≠row)(h3:(Value.slice AW l.length cW).ownBlock=none\/(Value.slice AW l.length cW).ownBlock≠row):PtS wr' H0 H3 H7 gs ws TB AW td cW L l:=
 ⟨h.x.grown hg h0,⟨cB h.t.1 hg h1,λy a=>cB (h.t.2 y a) hg (h2 y a)⟩,h.s.grown hg hgs,cB h.b hg h3⟩
def ptBk (B H0 gs:Nat) (TB AW:Option Addr) (td cW:Nat) (L:List Ty) (l:List Bk):Prop:=∀r,B<=r->H0≠r/\gs≠r/\(Value.slice TB L.length td).ownBlock≠some r/\(∀y∈L,(Value.slice y.A y.l.length y.c).ownBlock≠some r)/\(Value.slice AW l.length cW).ownBlock≠some r
theorem PtS.bk(h:PtS wr H0 H3 H7 gs ws TB AW td cW L l):ptBk wr.heap.size H0 gs TB AW td cW L l:=λr hr=>by
 refine⟨by have:=h.x.lt;omega,by have:=h.s.lt;omega,λe=>?_,λy a e=>?_,λe=>?_⟩
 .have:=(h.t.1.lt r e).2;omega
 .have:=((h.t.2 y a).lt r e).2;omega
 .have:=(h.b.lt r e).2;omega
theorem PtS.late(h:PtS wr H0 H3 H7 gs ws TB AW td cW L l){B:Nat}(hk:ptBk B H0 gs TB AW td cW L l){n:Nat}{v:Value}{xs:List Value}{e:TypeId}{sz:Nat}{wa:World}(hown:wa.ownsRow B e sz v n xs)(hg:wr.grownBy wr' v.ownBlock):PtS wr' H0 H3 H7 gs ws TB AW td cW L l:=by
 cases a:v.ownBlock with
 | none=>exact h.grown hg (by rw[a];simp) (by rw[a];simp) (by rw[a];exact Classical.em _) (λy _=>by rw[a];exact Classical.em _) (by rw[a];exact Classical.em _)
 | some r =>obtain⟨g,f,i,d,b⟩:=hk r (hown.lt r a).1;exact h.grown hg (by rw[a];simpa using g) (by rw[a];simpa using f) (.inr (by rw[a];exact i)) (λy c=>.inr (by rw[a];exact d y c)) (.inr (by rw[a];exact b))
end
theorem D6{l:List Bk}(hk:k<l.length)(h1:l[k].kind=1):(aK l)[(aK (l.take k)).length]? = some l[k]:=by
 have e:l=l.take k++l[k]::l.drop (k+1):=by rw[List.getElem_cons_drop];exact (kz2 k l).symm
 have a:aK l=aK (l.take k)++l[k]::aK (l.drop (k+1)):=by
  conv=>lhs;rw[e]
  unfold aK;rw[kxj,kkt (by rw[kqu];exact h1)]
 rw[a,kxp (kqb _)];simp
theorem zO(A:Option Addr)(ws:List Nat)(c n:Nat)(w:World)(hn:ws.length=n)(hs:ak (n:Int)=true)(hc:n<=c)(hr:RdW w w.heap.size A ws)(ho:∀x∈ws,x<18446744073709551616):
 Calls prog 94 #[.slice A n c] w λe w'=>PtRes ws A n c e w'/\Below w.heap.size w w':=by
 subst hn;have hb:=(af _).1 hs;have HR:=hid hr;have z:=hid (λW (hr:RdW W W.heap.size A ws)=>AJ A ws c ws.length W rfl (by omega) hc hr);unfold yj at z;have Fs:jk ws=if (tyN ws).isSome=true then 0 else 50:=by unfold jk;rw[if_pos hs]
 have Gp:=hid (λW (hr:RdW W W.heap.size A ws)=>(show Calls prog 157 #[.slice A ws.length c,.int .i64 16] W λe w'=>e=.returned (.bool (eY ws 16))/\W=w' from uh A ws c ws.length 16 W rfl (by omega) (by omega) hc hr));have Gn:=hid (λW (hr:RdW W W.heap.size A ws)=>(show Calls prog 157 #[.slice A ws.length c,.int .i64 24] W λe w'=>e=.returned (.bool (eY ws 24))/\W=w' from uh A ws c ws.length 24 W rfl (by omega) (by omega) hc hr));have Jb:=hid (λW (hr:RdW W W.heap.size A ws)=>Eo A ws c ws.length W rfl (by omega) hr ho);have Je:=hid (λW (hr:RdW W W.heap.size A ws)=>Fb A ws c ws.length W rfl (by omega) hr ho);unfold CS at Jb;unfold zF at Je;have hzv:=zeroSg;have U:(prog.info? 163).map (·.size)=some (#[.slice none 0 0,.slice none 0 0,.slice none 0 0,.slice none 0 0,.map none]:Array Value).size:=tZ;have X0:=hid (Bx.new w 163 #[.slice none 0 0,.slice none 0 0,.slice none 0 0,.slice none 0 0,.map none]);have C:=hid ((kqk w.heap.size w).alloc (kqb _) (.cells #[.slice none 0 0,.slice none 0 0,.slice none 0 0,.slice none 0 0,.map none] 163));cases ht:tyN ws with
 | none =>
  rw[ht] at z Fs;rw[Fs] at z;have HV:=hid (oG (.inl ht));simp only[kki,kj8,kzn,if_false] at z;clear Fs ht hs hb hr ho Gp Gn Jb Je hc;go_enter func94,ntmps94;go_wp2_with fail;refine (z.out _ (HR.out.up C.out C.out.size)).mono ?_;rintro e w1 ⟨⟨a,b0,b1,rfl⟩,Eq⟩;have o:=hid (C.out.trans (Eq.mono C.out.size));have X1:=hid (X0.out.up Eq X0.out.lt);have Fy:=o.out.size;have r:=hid ((o.out.alloc Fy (.cells #[.int .i64 a,.int .i64 0] 126)).alloc (by simp;omega) (.cells #[.bool b0,.bool b1] 127));have X2:=hid ((X1.out.alloc (.cells #[.int .i64 a,.int .i64 0] 126)).alloc (.cells #[.bool b0,.bool b1] 127));clear Eq;go_wp2_with (first
   | ((with_reducible refine bq 163 (.tmp 2) _ ?_);refine ai rfl _ _ _ rfl w.heap.size 163 #[.slice none 0 0,.slice none 0 0,.slice none 0 0,.slice none 0 0,.map none] #[.slice none 0 0,.slice none 0 0,.slice none 0 0,.slice none 0 0,.map none] (by rfl) (by rfl) X2.out rfl U (by simp[Value.oneCell']) ?_;intro w9 d g;have m:=hid d;have j:=hid g;clear d g))
  exact kqr (v:=.tuple #[.agg #[.slice none 0 0,.slice none 0 0,.slice none 0 0,.slice none 0 0,.map none],.int .i64 1]) (fe results94 _ m.out rfl rfl rfl) rfl ⟨⟨1,_,rfl,by omega,λ_=>⟨HV.out,rfl⟩,λh=>by omega⟩,j.out.below r.out (kqb _)⟩
 | some t =>
  have Kk:=uc ht;rw[ht] at z Fs;rw[Fs] at z;simp only[kq4,kxk,if_true] at z;have Jp:=hid (λW (hr:RdW W W.heap.size A ws)=>Cj A ws c ws.length t W rfl hs Kk hr ho);unfold Ei at Jp;have Km:=hid (λl S=>pJ (ws:=ws) (t:=t) (l:=l) ht S);have Gz:=hid (λh=>oG (ws:=ws) (.inr h));have Gd:Hid ((eY ws 16=false\/eY ws 24=false\/gH ws t=false\/slsOk ws=false\/uz ws=false)->lay ws=false):=hid λh=>by
   cases hq:lay ws with
   | false=>rfl
   | true =>
    cases S:blocks ws 128 with
    | none=>rw[Gz.out S] at hq;cases hq
    | some l =>obtain⟨a1,a2,a3,a4,a5,-⟩:=(Km.out l S).1 hq;rw[a1,a2,a3,a4,gU S,a5] at h;simp at h
  have Ku:Hid (∀l,blocks ws 128=some l->∀k (hk:k<l.length),∃ka:Nat,l[k].at_=(ka:Int)/\ka<=2048):=hid λl S k hk=>by
   obtain⟨a,e,a1,a2,a3,a4,-⟩:=bC _ _ S (by omega) k hk;exact⟨a,by rw[e];rfl,by have:=(ax a4).2.2;omega⟩
  have Kd:=hid (λl (S:blocks ws 128=some l)=>(a9 (by omega) _ _ S (by omega) (by omega) (by omega)).1);have Jf:=hid hs;have HT:=hid ht;have Jz:Hid (∀mb W,(Instr.build 163 #[(0,.slice A ws.length c),(4,.map (some mb))]).run prog W=.ok (.agg #[.slice A ws.length c,.slice none 0 0,.slice none 0 0,.slice none 0 0,.map (some mb)]) W):=hid λ_ _=>by kernel_rfl
  have hb2048:ws.length<=2048:=by omega
  clear Fs hs hb hr ho ht hc;go_enter func94,ntmps94;go_wp2_with fail;refine (z.out _ (HR.out.up C.out C.out.size)).mono ?_;rintro e w1 ⟨⟨a,b0,b1,rfl⟩,Eq⟩;have o:=hid (C.out.trans (Eq.mono C.out.size));have X1:=hid (X0.out.up Eq X0.out.lt);have Fy:=o.out.size;have r:=hid ((o.out.alloc Fy (.cells #[.int .i64 a,.int .i64 (t:Int)] 126)).alloc (by simp;omega) (.cells #[.bool b0,.bool b1] 127));have X2:=hid ((X1.out.alloc (.cells #[.int .i64 a,.int .i64 (t:Int)] 126)).alloc (.cells #[.bool b0,.bool b1] 127));have T4:=hid ((Bx.new w1 126 #[.int .i64 a,.int .i64 (t:Int)]).alloc (.cells #[.bool b0,.bool b1] 127));clear Eq;go_wp2_with fail;obtain⟨f,Jy⟩:∃f,(w1.alloc (.cells #[.int .i64 a,.int .i64 (t:Int)] 126)).alloc (.cells #[.bool b0,.bool b1] 127)=f:=⟨_,rfl⟩;rw[Jy] at r X2 T4 |-;clear Jy X0 X1 C o;have Fq:=r.out.size;refine (Gp.out _ (HR.out.up r.out Fq)).mono ?_;rintro e w2 ⟨rfl,rfl⟩;cases Ja:eY ws 16
  .have HV:=hid (Gd.out (.inl Ja));go_wp2_with (first
    | ((with_reducible refine bq 163 (.tmp 2) _ ?_);refine ai rfl _ _ _ rfl w.heap.size 163 #[.slice none 0 0,.slice none 0 0,.slice none 0 0,.slice none 0 0,.map none] #[.slice none 0 0,.slice none 0 0,.slice none 0 0,.slice none 0 0,.map none] (by rfl) (by rfl) X2.out rfl U (by simp[Value.oneCell']) ?_;intro w9 d g;have m:=hid d;have j:=hid g;clear d g))
   exact kqr (v:=.tuple #[.agg #[.slice none 0 0,.slice none 0 0,.slice none 0 0,.slice none 0 0,.map none],.int .i64 2]) (fe results94 _ m.out rfl rfl rfl) rfl ⟨⟨2,_,rfl,by omega,λ_=>⟨HV.out,rfl⟩,λh=>by omega⟩,j.out.below r.out (kqb _)⟩
  have Kv:=hid Ja;clear Ja;go_wp2_with fail;refine (Gn.out _ (HR.out.up r.out Fq)).mono ?_;rintro e w2 ⟨rfl,rfl⟩;cases Gw:eY ws 24
  .have HV:=hid (Gd.out (.inr (.inl Gw)));go_wp2_with (first
    | ((with_reducible refine bq 163 (.tmp 2) _ ?_);refine ai rfl _ _ _ rfl w.heap.size 163 #[.slice none 0 0,.slice none 0 0,.slice none 0 0,.slice none 0 0,.map none] #[.slice none 0 0,.slice none 0 0,.slice none 0 0,.slice none 0 0,.map none] (by rfl) (by rfl) X2.out rfl U (by simp[Value.oneCell']) ?_;intro w9 d g;have m:=hid d;have j:=hid g;clear d g))
   exact kqr (v:=.tuple #[.agg #[.slice none 0 0,.slice none 0 0,.slice none 0 0,.slice none 0 0,.map none],.int .i64 3]) (fe results94 _ m.out rfl rfl rfl) rfl ⟨⟨3,_,rfl,by omega,λ_=>⟨HV.out,rfl⟩,λh=>by omega⟩,j.out.below r.out (kqb _)⟩
  have Lf:=hid Gw;clear Gw;have La:=Jz.out;have Li:=@run_makeMap prog;obtain⟨-,t41,-,-,Kc⟩:=T4.out.c2;go_wp2_with fail;have g3:=Bx.new (f.alloc (Obj.map #[] 0)) 163 #[.slice A ws.length c,.slice none 0 0,.slice none 0 0,.slice none 0 0,.map (some f.heap.size)];rw[kqn] at g3;have m3:=(World.ownsMap_made (H:=Unit) f prog 3 (plainElem prog 4)).alloc (.cells #[.slice A ws.length c,.slice none 0 0,.slice none 0 0,.slice none 0 0,.map (some f.heap.size)] 163);have x3:=(X2.out.alloc (Obj.map #[] 0)).alloc (.cells #[.slice A ws.length c,.slice none 0 0,.slice none 0 0,.slice none 0 0,.map (some f.heap.size)] 163);have Fx:=(r.out.alloc Fq (Obj.map #[] 0)).alloc (by simp;omega) (.cells #[.slice A ws.length c,.slice none 0 0,.slice none 0 0,.slice none 0 0,.map (some f.heap.size)] 163);have Gt:((f.alloc (Obj.map #[] 0)).alloc (.cells #[.slice A ws.length c,.slice none 0 0,.slice none 0 0,.slice none 0 0,.map (some f.heap.size)] 163)).heap.size=f.heap.size+1+1:=by simp
  obtain⟨W3,Ju⟩:=xq ((f.alloc (Obj.map #[] 0)).alloc (.cells #[.slice A ws.length c,.slice none 0 0,.slice none 0 0,.slice none 0 0,.map (some f.heap.size)] 163));rw[Ju] at g3 m3 x3 Fx Gt |-;have Jt:=hid Gt;have Kt:w.heap.size<=W3.heap.size:=Fx.size;refine (Jp.out _ (HR.out.up Fx Fx.size)).mono ?_;rintro e w4 ⟨⟨R,tm,J,L,rfl,hT⟩,Fw⟩;have g4:=g3.up Fw g3.lt;have M4:=hid (dT m3 (Fw.block _ m3.lt));have X4:=hid (x3.up Fw x3.lt);have Gv:=hid (Fx.trans (Fw.mono Kt));have hz4:=Fw.size;have Jq:=x3.lt;have hg4:=g4.lt;obtain⟨q0,q1,q2,q3,q4,qf,-⟩:=g4.c5;have f1:=qf 1;have G4:=hid g4;have u:w.heap.size≠f.heap.size+1:=by have:=X2.out.lt;omega
  have hne7':=u.symm;clear Ju g3 m3 x3 Fx Gt Fw qf g4 X2 r T4 t41 Kc La Li;cases Fz:gH ws t
  .rw[Fz] at hT;simp only[kzn,if_false];have HV:=hid (Gd.out (.inr (.inr (.inl Fz))));have X5:=hid (X4.out.far (p:=⟨f.heap.size+1,1,none⟩) u (.slice R tm J));have Ky:=hid (Gv.out.setCell (p:=⟨f.heap.size+1,1,none⟩) (by dsimp only;omega) (.slice R tm J));clear hT Fz;go_wp2_with (first
    | ((with_reducible refine bq 163 (.tmp 2) _ ?_);refine ai rfl _ _ _ rfl w.heap.size 163 #[.slice none 0 0,.slice none 0 0,.slice none 0 0,.slice none 0 0,.map none] #[.slice none 0 0,.slice none 0 0,.slice none 0 0,.slice none 0 0,.map none] (by rfl) (by rfl) X5.out rfl U (by simp[Value.oneCell']) ?_;intro w9 d g;have m:=hid d;have j:=hid g;clear d g))
   exact kqr (v:=.tuple #[.agg #[.slice none 0 0,.slice none 0 0,.slice none 0 0,.slice none 0 0,.map none],.int .i64 4]) (fe results94 _ m.out rfl rfl rfl) rfl ⟨⟨4,_,rfl,by omega,λ_=>⟨HV.out,rfl⟩,λh=>by omega⟩,j.out.below Ky.out (kqb _)⟩
  obtain⟨rfl,Gb,Jo⟩:=hT Fz;simp only[if_true];have Le:=hid Fz;have Kl:=hid Jo;have Q:f.heap.size+1<W3.heap.size:=by have:=Jt.out;omega
  have OT5:=hid (show te (w4.setCell ⟨f.heap.size+1,1,none⟩ (.slice R L.length J)) W3.heap.size (.slice R L.length J) L from ⟨cy Gb.1 (eI Gb.1 Q).symm _,λy hy=>cy (Gb.2 y hy) (eI (Gb.2 y hy) Q).symm _⟩);have X5:=hid (X4.out.far (p:=⟨f.heap.size+1,1,none⟩) u (.slice R L.length J));have G5:=hid (G4.out.set_ 1 (.slice R L.length J));have M5:=hid (M4.out.setCell (a:=⟨f.heap.size+1,1,none⟩) (by simp) (.slice R L.length J));have Ft:=Gv.out.setCell (p:=⟨f.heap.size+1,1,none⟩) (by dsimp only;omega) (.slice R L.length J);clear hT Fz Gb Jo;go_wp2_with fail;obtain⟨W5,Gr⟩:∃W5,w4.setCell ⟨f.heap.size+1,1,none⟩ (.slice R L.length J)=W5:=⟨_,rfl⟩;have Kq:W5.heap.size=w4.heap.size:=by rw[<-Gr];simp
  rw[Gr] at OT5 X5 G5 M5 Ft |-;refine (Jb.out _ (HR.out.up Ft Ft.size)).mono ?_;rintro e w6 ⟨hh,K⟩;have Jr:=Ft.trans (K.mono Ft.size);have g6:=G5.out.up K G5.out.lt;have X6:=hid (X5.out.up K X5.out.lt);have M6:=hid (dT M5.out (K.block _ M5.out.lt));have OT6:=hid (show te w6 W3.heap.size (.slice R L.length J) L from ⟨ae OT5.out.1 K (kqb _),λy hy=>ae (OT5.out.2 y hy) K (kqb _)⟩);have hz6:=K.size;have hx6:=X6.out.lt;obtain⟨q0',q1',q2',q3',q4',qf',hg6⟩:=g6.c5;have f2:=qf' 2;have G6:=hid g6;have Fv:=hid Jr;have hgz:f.heap.size+1<W5.heap.size:=G5.out.lt;have h35:W3.heap.size<=W5.heap.size:=by omega
  have q:dC ws=if slsOk ws=true then 0 else 50:=by unfold dC;rw[if_pos Jf.out]
  clear Gr Kq Ft K Jr g6 qf' q0 q1 q2 q3 q4 f1 X4 G4 M4 Gv X5 G5 M5 OT5;cases Fp:slsOk ws
  .rw[Fp] at q;simp only[kzn,if_false] at q;obtain rfl:=hh.2 (by rw[q];decide);have HV:=hid (Gd.out (.inr (.inr (.inr (.inl Fp)))));rw[q];have X7:=hid (X6.out.far (p:=⟨f.heap.size+1,2,none⟩) u (.slice none 0 0));have Gy:=hid (Fv.out.setCell (p:=⟨f.heap.size+1,2,none⟩) (by dsimp only;omega) (.slice none 0 0));clear Fp q hh;go_wp2_with (first
    | ((with_reducible refine bq 163 (.tmp 2) _ ?_);refine ai rfl _ _ _ rfl w.heap.size 163 #[.slice none 0 0,.slice none 0 0,.slice none 0 0,.slice none 0 0,.map none] #[.slice none 0 0,.slice none 0 0,.slice none 0 0,.slice none 0 0,.map none] (by rfl) (by rfl) X7.out rfl U (by simp[Value.oneCell']) ?_;intro w9 d g;have m:=hid d;have j:=hid g;clear d g))
   exact kqr (v:=.tuple #[.agg #[.slice none 0 0,.slice none 0 0,.slice none 0 0,.slice none 0 0,.map none],.int .i64 5]) (fe results94 _ m.out rfl rfl rfl) rfl ⟨⟨5,_,rfl,by omega,λ_=>⟨HV.out,rfl⟩,λh=>by omega⟩,j.out.below Gy.out (kqb _)⟩
  rw[Fp] at q;simp only[if_true] at q;obtain⟨T,rfl,Kg,Js⟩:=hh.1 q;rw[q];have Lb:=hid Fp;have Jh:T≠f.heap.size+1:=by omega
  have S7:=hid (Js.far (p:=⟨f.heap.size+1,2,none⟩) Jh (.slice (some ⟨T,0,none⟩) 16 16));have X7:=hid (X6.out.far (p:=⟨f.heap.size+1,2,none⟩) u (.slice (some ⟨T,0,none⟩) 16 16));have G7:=hid (G6.out.set_ 2 (.slice (some ⟨T,0,none⟩) 16 16));have M7:=hid (M6.out.setCell (a:=⟨f.heap.size+1,2,none⟩) (by simp) (.slice (some ⟨T,0,none⟩) 16 16));have OT7:=hid (show te (w6.setCell ⟨f.heap.size+1,2,none⟩ (.slice (some ⟨T,0,none⟩) 16 16)) W3.heap.size (.slice R L.length J) L from ⟨cy OT6.out.1 (eI OT6.out.1 Q).symm _,λy hy=>cy (OT6.out.2 y hy) (eI (OT6.out.2 y hy) Q).symm _⟩);have Z:=Fv.out.setCell (p:=⟨f.heap.size+1,2,none⟩) (by dsimp only;omega) (.slice (some ⟨T,0,none⟩) 16 16);clear Fp q hh Js;go_wp2_with fail;obtain⟨W7,Gi⟩:∃W7,w6.setCell ⟨f.heap.size+1,2,none⟩ (.slice (some ⟨T,0,none⟩) 16 16)=W7:=⟨_,rfl⟩;have Gh:W7.heap.size=w6.heap.size:=by rw[<-Gi];simp
  rw[Gi] at OT7 X7 G7 M7 S7 Z |-;refine (Je.out _ (HR.out.up Z Z.size)).mono ?_;rintro e w8 ⟨⟨AW,cW,rfl,B⟩,D⟩;have Jd:=hid (Z.trans (D.mono Z.size));have X8:=hid (X7.out.up D X7.out.lt);have hgl:T<W7.heap.size:=S7.out.lt;have Kh:W5.heap.size<=W7.heap.size:=by omega
  cases N:uz ws
  .have HV:=hid (Gd.out (.inr (.inr (.inr (.inr N)))));have he:kM ws=50:=by unfold kM;rw[if_pos Jf.out,N];rfl
   have ho:lH ws=[]:=by unfold lH;rw[if_neg (by rw[he];decide)]
   rw[he,ho];clear N he ho B Z D Gi Gh q0' q1' q2' q3' q4' f2;go_wp2_with (first
    | ((with_reducible refine bq 163 (.tmp 2) _ ?_);refine ai rfl _ _ _ rfl w.heap.size 163 #[.slice none 0 0,.slice none 0 0,.slice none 0 0,.slice none 0 0,.map none] #[.slice none 0 0,.slice none 0 0,.slice none 0 0,.slice none 0 0,.map none] (by rfl) (by rfl) X8.out rfl U (by simp[Value.oneCell']) ?_;intro w9 d g;have m:=hid d;have j:=hid g;clear d g))
   exact kqr (v:=.tuple #[.agg #[.slice none 0 0,.slice none 0 0,.slice none 0 0,.slice none 0 0,.map none],.int .i64 6]) (fe results94 _ m.out rfl rfl rfl) rfl ⟨⟨6,_,rfl,by omega,λ_=>⟨HV.out,rfl⟩,λh=>by omega⟩,j.out.below Jd.out (kqb _)⟩
  have he:kM ws=0:=by unfold kM;rw[if_pos Jf.out,N];rfl
  obtain⟨l,S⟩:∃l,blocks ws 128=some l:=by
   cases S:blocks ws 128 with
   | none=>rw[mq S] at N;cases N
   | some l=>exact⟨l,rfl⟩
  have ho:lH ws=l:=by unfold lH;rw[if_pos he,S];rfl
  have Gk:jY l=true:=by rw[<-gU S];exact N
  rw[ho] at B;rw[he,ho];have hl24:l.length<=1024:=by have:=Kd.out l S;omega
  have HL:=hid S;have Lg:=hid Gk;have P8:=hid (show PtS w8 w.heap.size W3.heap.size W5.heap.size T ws R AW J cW L l from ⟨X8.out,⟨ae OT7.out.1 D (kqb _),λy hy=>ae (OT7.out.2 y hy) D (kqb _)⟩,S7.out.up D S7.out.lt,ar B Kh⟩);have Kx:=hid P8.out.bk;have G8:=hid (G7.out.up D G7.out.lt);have M8:=hid (dT M7.out (D.block _ M7.out.lt));have Jj:=G8.out.lt;have Kb:=M8.out.lt;have Kn:=Jd.out.size;have Kf:=hid (Ku.out l HL.out);clear N he ho S Gk B Z D Gi Gh q0' q1' q2' q3' q4' f2 OT6 OT7 X6 X7 X8 G6 G7 M6 M7 S7 Fv;obtain⟨i2,hi,Jn,Fy,Fq⟩:=kze kp;have HJ:=hid hi;have Ki:=hid Jn;have Kw:=hid Fy;have Kj:=hid Fq;clear hi Jn Fy Fq;go_wp2_with fail;go_loopw [61] (λi wr=>∃(k:Nat) (OB:Option Addr) (oc:Nat),k<=l.length/\i=.int .i64 k/\Hid (Bx wr (f.heap.size+1) 163 #[.slice A ws.length c,.slice R L.length J,.slice (some ⟨T,0,none⟩) 16 16,.slice OB (aK (l.take k)).length oc,.map (some f.heap.size)])/\Hid (wr.ownsRow w8.heap.size 55 6 (.slice OB (aK (l.take k)).length oc) (aK (l.take k)).length ((aK (l.take k)).flatMap Bk.cells))/\Hid (wr.ownsMap prog 3 (plainElem prog 4) f.heap.size (aK (l.take k)).length (gY ((aK l).map Bk.at_) (aK (l.take k)).length))/\Hid (PtS wr w.heap.size W3.heap.size W5.heap.size T ws R AW J cW L l)/\w8.heap.size<=wr.heap.size/\Hid (Below w.heap.size w wr)) (λi _=>l.length-(intOf i).toNat)
  case atStart=>exact⟨0,none,0,kqx _,rfl,G8,hid (kq1 _ _ _ _),M8,P8,kqb _,Jd⟩
  obtain⟨k,OB,oc,hk,rfl,G,ON,M,P,Jl,HB⟩:=hrel;have hz:=HB.out.size;by_cases Gg:k<l.length
  .obtain ⟨b,off,rfl,hbb,p0,p1,p2,p3,p4,p5⟩:=RdB.at_ (show RdB wr wr.heap.size AW l from Rd.of_own P.out.b) Gg;have Y:=hid (qz Gg);have Fu:=hid (D6 Gg);have Jv:(aK (l.take k)).length<=k:=by unfold aK;have:=kxm (λb:Bk=>b.kind==1) (l.take k);rw[kzd] at this;omega
   obtain⟨x,hx⟩:=xq (l[k]);rw[hx] at p0 p1 p2 p3 p4 p5 Y Fu;obtain⟨E,xs,xk,F,I,O⟩:=x;dsimp only at p0 p1 p2 p3 p4 p5 Y Fu;obtain⟨LK,Ji⟩:=xq (aK (l.take k));rw[Ji] at G ON M Y Fu Jv;have hki:(k:Int)<(l.length:Int):=by omega
   have hk0:(0:Int)<=(k:Int):=by omega
   obtain⟨ka,Gj,hka2⟩:=Kf.out k Gg;rw[hx] at Gj;dsimp only at Gj;clear hx Ji;by_cases Ga:xk=1
   .have Fo:Hid (aK (l.take (k+1))=LK++[⟨E,xs,xk,F,I,O⟩]):=hid (by rw[Y.out,if_pos Ga]);have HX:=hid (Fu.out Ga);have Ko:Hid (gY ((aK l).map Bk.at_) (LK.length+1)=(gY ((aK l).map Bk.at_) LK.length).put (.int .i64 E) (.lit (.bool true))):=hid (by simp only[gY,kxd,HX.out];rfl);have Jg:(Lit.int .i64 E).wf=true:=by simp[Lit.wf,IntKind.min,IntKind.max,IntKind.signed,IntKind.bits];omega
    have HK:=hid (keyOf_int_mk (P:=prog) underlying3 Jg);subst Ga;obtain⟨g0,g1,g2,g3,g4,gf,-⟩:=G.out.c5;have gf3:=gf 3;have hgw:=G.out.lt;have Gc:=hid (ON.out.alloc (.cells #[.int .i64 E,.int .i64 xs,.int .i64 1,.int .i64 F,.bool I,.int .u64 (O:Int)] 55));have Gx:=hid (G.out.alloc (.cells #[.int .i64 E,.int .i64 xs,.int .i64 1,.int .i64 F,.bool I,.int .u64 (O:Int)] 55));have Gu:=hid (M.out.alloc (.cells #[.int .i64 E,.int .i64 xs,.int .i64 1,.int .i64 F,.bool I,.int .u64 (O:Int)] 55));have Gq:=hid (P.out.alloc (.cells #[.int .i64 E,.int .i64 xs,.int .i64 1,.int .i64 F,.bool I,.int .u64 (O:Int)] 55));have o:=hid (HB.out.alloc hz (.cells #[.int .i64 E,.int .i64 xs,.int .i64 1,.int .i64 F,.bool I,.int .u64 (O:Int)] 55));have BX1:=hid (Bx.new wr 55 #[.int .i64 E,.int .i64 xs,.int .i64 1,.int .i64 F,.bool I,.int .u64 (O:Int)]);have Gl:w8.heap.size<=(wr.alloc (.cells #[.int .i64 E,.int .i64 xs,.int .i64 1,.int .i64 F,.bool I,.int .u64 (O:Int)] 55)).heap.size:=aH Jl;have Gm:=hid Gl;have Gz:=hid (show some wr.heap.size≠(Value.slice OB LK.length oc).ownBlock from λh=>by have:=(ON.out.lt _ h.symm).2;omega);have hmw:=M.out.lt
    have Gf:=bn (wr.alloc (.cells #[.int .i64 E,.int .i64 xs,.int .i64 1,.int .i64 F,.bool I,.int .u64 (O:Int)] 55)) [.int .i64 E,.int .i64 xs,.int .i64 1,.int .i64 F,.bool I,.int .u64 (O:Int)] 55;rw[kqn] at Gf;have Gf:=hid Gf;clear Y Fu Jg gf Gj Gl;go_wp2_with (first
     | (at_builtin;refine kq9 _ rfl _ _ 48 rfl w8.heap.size 55 i2 _ 6 48 underlying48 HJ.out Ki.out Kw.out Kj.out rfl (by decide) _ _ _ rfl (Gc.out.alloc _) ⟨_,0,none⟩ 1 1 [.int .i64 E,.int .i64 xs,.int .i64 1,.int .i64 F,.bool I,.int .u64 (O:Int)] rfl rfl Gf.out (by simp[Value.oneCell']) (by unfold maxLen;omega) (by omega) (aH Gm.out) ?_;intro v1 w6 X V _;obtain⟨OV,oc2,rfl⟩:=ap X;have Fv:=hid (am o.out o.out.size (ar Gc.out Kn) V);have Jc:=hid X;have Ka:=hid ((Gx.out.alloc _).grown V (eI ON.out Jj));have Lc:=hid ((Gu.out.alloc _).kept V (eI ON.out Kb));have Kp:=hid ((Gq.out.alloc _).late Kx.out Gc.out V);have BX6:=hid ((BX1.out.alloc _).grown V Gz.out);have Kz:=kzv (aH Gm.out) V.size;obtain⟨d0,d1,d2,d3,d4,df,-⟩:=Ka.out.c5;obtain⟨x0,-,-,-,-,-,-,xlt⟩:=BX6.out.c6;have df3:=df 3;clear X V df)
     | (at_mapUpdate;refine wpList_mapUpdate_own _ rfl _ _ _ 161 rfl 3 4 yf underlying161 _ f.heap.size _ _ rfl (Lc.out.setCell (a:=⟨f.heap.size+1,3,none⟩) (by simp) _) (by unfold maxLen;omega) _ _ _ rfl rfl HK.out (.lit (.bool true)) [] (plainElem_bool underlying4 true) ?_;intro w7 Gs Fr))
    have Gy:=hid ((Fv.out.setCell (p:=⟨f.heap.size+1,3,none⟩) (by dsimp only;omega) (.slice OV (LK.length+1) oc2)).grown Fr (by rw[kxz];exact Fv.out.size) (λk hk=>by injection hk with hk;omega));have Kr:=hid ((Ka.out.set_ 3 (.slice OV (LK.length+1) oc2)).grown Fr (by simp));have n7:=(eI Jc.out Jj).symm;have Lh:=hid (cB (cy Jc.out n7 (.slice OV (LK.length+1) oc2)) Fr (.inr (eI Jc.out Kb).symm));have Jm:=nd P.out.x M.out;have Jw:=nd P.out.s M.out;have Jk:f.heap.size<W3.heap.size:=by have:=Jt.out;omega
    have Ke:=hid ((Kp.out.set_ (p:=⟨f.heap.size+1,3,none⟩) u Q (by omega) Kg (.slice OV (LK.length+1) oc2)).grown Fr Jm Jw (.inr (eI P.out.t.1 Jk).symm) (λy hy=>.inr (eI (P.out.t.2 y hy) Jk).symm) (.inr (eI P.out.b (show f.heap.size<W5.heap.size by omega)).symm));have Gh:w8.heap.size<=w7.heap.size:=kzv Kz (by have:=Fr.size;rw[kxz] at this;exact this);clear Fr Jm Jw n7;go_wp2;go_roundw
    case rel =>
     refine⟨k+1,OV,oc2,by omega,by go_num,?_,?_,?_,Ke,Gh,Gy⟩
     .rw[Fo.out,kqz];exact Kr
     .rw[Fo.out,kqz,kz0];exact Lh
     rw[Fo.out,kqz];refine hid ?_;show w7.ownsMap _ _ _ _ (LK.length+1) (gY _ (LK.length+1));rw[Ko.out];exact Gs
    case measure=>simp[intOf];omega
   have Fo:Hid (aK (l.take (k+1))=LK):=hid (by rw[Y.out,if_neg Ga,kzm]);have e1:(xk==1)=false:=by rw[kqi];exact Ga
   have Gc:=hid (ON.out.alloc (.cells #[.int .i64 E,.int .i64 xs,.int .i64 xk,.int .i64 F,.bool I,.int .u64 (O:Int)] 55));have Gx:=hid (G.out.alloc (.cells #[.int .i64 E,.int .i64 xs,.int .i64 xk,.int .i64 F,.bool I,.int .u64 (O:Int)] 55));have Gu:=hid (M.out.alloc (.cells #[.int .i64 E,.int .i64 xs,.int .i64 xk,.int .i64 F,.bool I,.int .u64 (O:Int)] 55));have Gq:=hid (P.out.alloc (.cells #[.int .i64 E,.int .i64 xs,.int .i64 xk,.int .i64 F,.bool I,.int .u64 (O:Int)] 55));have o:=hid (HB.out.alloc hz (.cells #[.int .i64 E,.int .i64 xs,.int .i64 xk,.int .i64 F,.bool I,.int .u64 (O:Int)] 55));have Ld:=hid (show w8.heap.size<=(wr.alloc (.cells #[.int .i64 E,.int .i64 xs,.int .i64 xk,.int .i64 F,.bool I,.int .u64 (O:Int)] 55)).heap.size from aH Jl);subst Gj;clear Y Fu Ga;go_wp2;go_roundw
   case rel=>exact⟨k+1,OB,oc,by omega,by go_num,by rw[Fo.out];exact Gx,by rw[Fo.out];exact Gc,by rw[Fo.out];exact Gu,Gq,Ld.out,o⟩
   case measure=>simp[intOf];omega
  obtain rfl:k=l.length:=by omega
  rw[kzj] at G ON M;have HG:=hid G.out;obtain⟨g0,g1,g2,g3,g4,-,-⟩:=G.out.c5;go_wp2_with (first
   | ((with_reducible refine fF 163 (.tmp 7) ?_);refine kxg rfl _ _ rfl (f.heap.size+1) (by rfl) 163 _ (0,0) _ HG.out underlying163 (by rfl) tZ ?_)
   | ((with_reducible refine bq 163 (.tmp 2) _ ?_);refine ai rfl _ _ _ rfl w.heap.size 163 #[.slice none 0 0,.slice none 0 0,.slice none 0 0,.slice none 0 0,.map none] #[.slice A ws.length c,.slice R L.length J,.slice (some ⟨T,0,none⟩) 16 16,.slice OB (aK l).length oc,.map (some f.heap.size)] (by rfl) (by rfl) P.out.x rfl U (by simp[Value.oneCell']) ?_;intro w9 d g;have m:=hid d;have j:=hid g;clear d g))
  refine kqr (v:=.tuple #[.agg #[.slice A ws.length c,.slice R L.length J,.slice (some ⟨T,0,none⟩) 16 16,.slice OB (aK l).length oc,.map (some f.heap.size)],.int .i64 0]) (fe results94 _ m.out rfl rfl rfl) rfl ⟨⟨0,_,rfl,kk8 _,λh=>absurd rfl h,λ_=>⟨t,l,?_⟩⟩,j.out.below HB.out (kqb _)⟩;have d:=j.out.2.2 w.heap.size (kqb _);have Ge:wr.grownBy w9 (some w.heap.size):=⟨d.os,d.tape,d.output,by rw[j.out.1];exact kqb _,λk hk Ks=>j.out.2.1 k (λe=>Ks (by rw[e]))⟩;have hS:=j.out.bx P.out.s (show T≠w.heap.size by omega);refine⟨HT.out,HL.out,Kv.out,Lf.out,Le.out,Lb.out,Lg.out,R,some ⟨T,0,none⟩,OB,J,16,oc,f.heap.size,L,rfl,?_,Kl.out,Rd.of_box hS hS.lt,?_,?_⟩
  .exact RdL.of_own (H:=W3.heap.size) ⟨cB P.out.t.1 Ge (.inr (eI P.out.t.1 Jq).symm),λy hy=>cB (P.out.t.2 y hy) Ge (.inr (eI (P.out.t.2 y hy) Jq).symm)⟩ rfl
  .exact Rd.of_own (cB ON.out Ge (.inr (eI ON.out (show w.heap.size<w8.heap.size by omega)).symm))
  exact M.out.kept Ge (nd P.out.x M.out).symm
theorem zn{t:Nat}{L:List Ty}(hty:gH ws t=true)(hL:L.map Ty.l=gx ws t 8):∀x∈L,cR x.l=0/\kSz x.l=aX x.l.length/\x.l.length<=8:=by
 intro x h;have b:x.l∈gx ws t 8:=by rw[<-hL];exact kjb h
 unfold gx at b;obtain⟨i,g,e⟩:=kzy.1 b;rw[kzh] at g;have a:=(i9 ws t).1 hty i (by omega);unfold Ai at a;rw[if_pos (by omega)] at a;have f:x.l=cm (wd ws (96+2*i)):=by rw[<-e];unfold bc;rw[if_pos a]
 obtain⟨k,j,-,-⟩:=fC a;have c:x.l.length<=8:=by rw[f,cV];exact k
 have d:cR x.l=0:=iQ c (by rw[f];exact j);exact⟨d,by unfold kSz;rw[if_pos d],c⟩
section
variable {A TA SA OA:Option Addr} {ws:List Nat} {L:List Ty} {l:List Bk} {c n tc tn sc sn oc mb:Nat} {w:World}
theorem Cz(hl:blocks ws 128=some l)(hm:(aK l).length<=1000000)(hO:RdB w w.heap.size OA (aK l)):
 Calls prog 100 #[.agg #[.slice A n c,.slice TA tn tc,.slice SA sn sc,.slice OA (aK l).length oc,.map (some mb)],.func (.func 95) #[.agg #[.slice A n c,.slice TA tn tc,.slice SA sn sc,.slice OA (aK l).length oc,.map (some mb)]] #[]] w λe w'=>e=.returned (.bool ((aK l).all λb=>!wrK ws T (aK l) 7 b))/\Below w.heap.size w w':=by
 refine iS 95 A TA SA OA (aK l) _ c n tc tn sc sn oc (aK l).length mb w rfl hm hO (λ_ _=>by kernel_rfl) (λk h W hb=>?_);obtain⟨a,z,g,f,d,e,-⟩:=gv hl (kqs h);rw[e,lD];have i:wrB ws T (aK l) a z g d f 7=(d||decide (0<f)):=by simp[wrB]
 rw[i];exact Bh A TA SA OA c n tc tn sc sn oc (aK l).length mb a z g f 1 d W
theorem zH(hl:blocks ws 128=some l)(hm:(aK l).length<=1000000)(ht:L.length=tn)(hk:∀x∈L,cR x.l=0/\kSz x.l=aX x.l.length/\x.l.length<=8)(hO:RdB w w.heap.size OA (aK l))(hL:RdL w w.heap.size TA L):
 Calls prog 100 #[.agg #[.slice A n c,.slice TA tn tc,.slice SA sn sc,.slice OA (aK l).length oc,.map (some mb)],.func (.func 96) #[.agg #[.slice A n c,.slice TA tn tc,.slice SA sn sc,.slice OA (aK l).length oc,.map (some mb)]] #[]] w λe w'=>e=.returned (.bool ((aK l).all λb=>!wrK ws (L.map Ty.l) (aK l) 8 b))/\Below w.heap.size w w':=by
 refine iS 96 A TA SA OA (aK l) _ c n tc tn sc sn oc (aK l).length mb w rfl hm hO (λ_ _=>by kernel_rfl) (λk h W f=>?_);obtain⟨a,z,d,i,g,e,-⟩:=gv hl (kqs h);rw[e,lD];have j:(!wrB ws (L.map Ty.l) (aK l) a z d g i 8)=(decide (d<L.length)&&aX (((L.map Ty.l)[d]?).getD []).length==z):=by unfold wrB;rw[if_neg (by decide),if_pos rfl,kzl];cases decide (d<L.length)<;>simp[bne]
 rw[j];exact yC A TA SA OA L c n tc tn sc sn oc (aK l).length mb a z d i 1 g W ht hk (hL.up f f.size)
theorem pT{a z ty nx:Nat}{mk:Bool}(hT:L.map Ty.l=T)(h:wrK ws T O 8 ⟨(a:Int),(z:Int),1,(ty:Int),mk,nx⟩=false):∃h:ty<L.length,z=aX L[ty].l.length/\(T[ty]?).getD []=L[ty].l:=by
 rw[lD] at h;unfold wrB at h;rw[if_neg (by decide),if_pos rfl,kzo,kkr,kql,kqp,<-hT,kzl] at h;have e:(T[ty]?).getD []=(L[ty]'h.1).l:=by rw[<-hT];simp[h.1]
 refine⟨h.1,?_,e⟩;rw[<-e,<-hT];exact h.2.symm
theorem vc(hl:blocks ws 128=some l)(hm:(aK l).length<=1000000)(hn:ws.length=n)(hn2:n<=2048)(ht:L.length=tn)(hk:∀x∈L,cR x.l=0/\kSz x.l=aX x.l.length/\x.l.length<=8)(h8:∀b∈aK l,wrK ws (L.map Ty.l) (aK l) 8 b=false)(hO:RdB w w.heap.size OA (aK l))(hL:RdL w w.heap.size TA L)(hR:RdW w w.heap.size A ws):
 Calls prog 100 #[.agg #[.slice A n c,.slice TA tn tc,.slice SA sn sc,.slice OA (aK l).length oc,.map (some mb)],.func (.func 97) #[.agg #[.slice A n c,.slice TA tn tc,.slice SA sn sc,.slice OA (aK l).length oc,.map (some mb)]] #[]] w λe w'=>e=.returned (.bool ((aK l).all λb=>!wrK ws (L.map Ty.l) (aK l) 9 b))/\Below w.heap.size w w':=by
 refine iS 97 A TA SA OA (aK l) _ c n tc tn sc sn oc (aK l).length mb w rfl hm hO (λ_ _=>by kernel_rfl) (λk h W g=>?_);obtain⟨a,z,i,m,j,e,-,haz,-⟩:=gv hl (kqs h);have d:=h8 _ (kqs h);rw[e] at d |-;obtain⟨f,o,q⟩:=pT rfl d;rw[lD];have p:wrB ws (L.map Ty.l) (aK l) a z i j m 9=(decide (L[i].l.length+2<z)&&wd ws (a+2+L[i].l.length) != 0):=by unfold wrB;rw[if_neg (by decide),if_neg (by decide),if_pos rfl,q]
 rw[p];exact uO A TA SA OA ws L c n tc tn sc sn oc (aK l).length mb a z i m 1 j W hn hn2 ht f (hk _ (kqs f)).2.2 o (by omega) (hR.up g g.size) (hL.up g g.size)
theorem ut(hl:blocks ws 128=some l)(hm:(aK l).length<=1000000)(hn:ws.length=n)(hn2:n<=2048)(ht:L.length=tn)(ho:∀x∈ws,x<18446744073709551616)(hk:∀x∈L,cR x.l=0/\kSz x.l=aX x.l.length/\x.l.length<=8)(h8:∀b∈aK l,wrK ws (L.map Ty.l) (aK l) 8 b=false)(hO:RdB w w.heap.size OA (aK l))(hL:RdL w w.heap.size TA L)(hR:RdW w w.heap.size A ws):
 Calls prog 100 #[.agg #[.slice A n c,.slice TA tn tc,.slice SA sn sc,.slice OA (aK l).length oc,.map (some mb)],.func (.func 98) #[.agg #[.slice A n c,.slice TA tn tc,.slice SA sn sc,.slice OA (aK l).length oc,.map (some mb)]] #[]] w λe w'=>e=.returned (.bool ((aK l).all λb=>!wrK ws (L.map Ty.l) (aK l) 10 b))/\Below w.heap.size w w':=by
 refine iS 98 A TA SA OA (aK l) _ c n tc tn sc sn oc (aK l).length mb w rfl hm hO (λ_ _=>by kernel_rfl) (λk h W g=>?_);obtain⟨a,z,j,o,m,e,-,haz,-⟩:=gv hl (kqs h);have f:=h8 _ (kqs h);rw[e] at f |-;obtain⟨d,q,p⟩:=pT rfl f;rw[lD];have r:wrB ws (L.map Ty.l) (aK l) a z j m o 10=((List.range L[j].l.length).any λi=>wrF ws L[j].l (aK l) a 10 i):=by unfold wrB;rw[if_neg (by decide),if_neg (by decide),if_neg (by decide),p]
 rw[r];exact vG A TA SA OA ws L (aK l) c n tc tn sc sn oc (aK l).length mb a z j o 1 m W hn hn2 ht d (hk _ (kqs d)).2.2 q (by omega) (hR.up g g.size) (hL.up g g.size) ho
theorem Cd(hl:blocks ws 128=some l)(hm:(aK l).length<=1000000)(hn:ws.length=n)(hn2:n<=2048)(ht:L.length=tn)(ho:∀x∈ws,x<18446744073709551616)(hk:∀x∈L,cR x.l=0/\kSz x.l=aX x.l.length/\x.l.length<=8)(h8:∀b∈aK l,wrK ws (L.map Ty.l) (aK l) 8 b=false)(hO:RdB w w.heap.size OA (aK l))(hL:RdL w w.heap.size TA L)(hR:RdW w w.heap.size A ws)(hM:w.ownsMap prog 3 (plainElem prog 4) mb (aK l).length (gY ((aK l).map Bk.at_) (aK l).length)):
 Calls prog 100 #[.agg #[.slice A n c,.slice TA tn tc,.slice SA sn sc,.slice OA (aK l).length oc,.map (some mb)],.func (.func 99) #[.agg #[.slice A n c,.slice TA tn tc,.slice SA sn sc,.slice OA (aK l).length oc,.map (some mb)]] #[]] w λe w'=>e=.returned (.bool ((aK l).all λb=>!wrK ws (L.map Ty.l) (aK l) 11 b))/\Below w.heap.size w w':=by
 refine iS 99 A TA SA OA (aK l) _ c n tc tn sc sn oc (aK l).length mb w rfl hm hO (λ_ _=>by kernel_rfl) (λk h W d=>?_);obtain⟨a,z,j,o,m,e,-,haz,-⟩:=gv hl (kqs h);have g:=h8 _ (kqs h);rw[e] at g |-;obtain⟨f,s,r⟩:=pT rfl g;rw[lD];have t:wrB ws (L.map Ty.l) (aK l) a z j m o 11=((List.range L[j].l.length).any λi=>wrF ws L[j].l (aK l) a 11 i):=by unfold wrB;rw[if_neg (by decide),if_neg (by decide),if_neg (by decide),r]
 rw[t];refine Am A TA SA OA ws L (aK l) c n tc tn sc sn oc (aK l).length mb a z j o 1 m W hn hn2 ht f (hk _ (kqs f)).2.2 s (by omega) (hR.up d d.size) (hL.up d d.size) ho (λb d=>?_) (dT hM (d.block _ hM.lt));obtain⟨q,z',ty',nx',mk',p,-,haz',hz2,-⟩:=gv hl d;rw[p];show (q:Int)<n;omega
end
def zc (ws:List Nat) (e:Ending):Prop:=∃r:Int,e=.returned (.tuple #[.int .i64 r,.int .i64 (kh ws.length)])/\0<=r/\(ak (ws.length:Int)=true->(r=0↔lay ws=true))
def Fn (ws:List Nat) (T:List (List Nat)) (O:List Bk) (k:Nat):Prop:=∀r,7<=r->r<7+k->∀b∈O,wrK ws T O r b=false
theorem yi(h:Fn ws T O k)(h1:(O.all λb=>!wrK ws T O (7+k) b)=true):Fn ws T O (k+1):=λr d hr b a=>by
 rcases kq6 r (7+k) with c|c
 .exact h r d c b a
 .have:r=7+k:=by omega
  subst this;have:=kzq.1 h1 b a
  simpa using this
theorem Ce(hk:k<5)(h1:(O.all λb=>!wrK ws T O (7+k) b)=false):¬ ∀r,7<=r->r<12->∀b∈O,wrK ws T O r b=false:=λh=>by rw[kzq.2 λb a=>by rw[h (7+k) (by omega) (by omega) b a];rfl] at h1;cases h1
def mL (O:List Bk) (S:List Sl) (k:Nat):Prop:=∀i (h:i<S.length),i<k->jI O S[i]=true
theorem rk{S:List Sl}(hk:k<S.length)(h:mL O S k)(h1:jI O S[k]=true):mL O S (k+1):=λi b hlt=>by
 rcases kq6 i k with a|a
 .exact h i b a
 .have:i=k:=by omega
  subst this;exact h1
theorem uU(A:Option Addr)(ws:List Nat)(c n:Nat)(w:World)(hn:ws.length=n)(hm:n<=9223372036854775807)(hc:n<=c)(hr:RdW w w.heap.size A ws)(ho:∀x∈ws,x<18446744073709551616):
 Calls prog 51 #[.slice A n c] w λe w'=>zc ws e/\Below w.heap.size w w':=by
 subst hn;have Fp:=hid (aJ A ws.length c w hm);cases hs:ak (ws.length:Int)
 .have HE:=hid (bJ hs);have K:Hid (zc ws (.returned (.tuple #[.int .i64 0,.int .i64 8]))):=hid ⟨0,by rw[HE.out],kk8 _,λh=>by rw[hs] at h;cases h⟩;rw[HE.out] at Fp;clear hs hr ho hm hc;go_enter func51,ntmps51;go_wp2_with fail;refine Fp.out.mono ?_;rintro e w1 ⟨rfl,rfl⟩;go_wp2;go_ret2;exact⟨K.out,kqk _ _⟩
 have HE:=hid (aW hs);have Q:=(af _).1 hs;have Gf:=hid (zO A ws c ws.length w rfl hs hc hr ho);have V:Hid (∀r:Int,0<r->lay ws=false->zc ws (.returned (.tuple #[.int .i64 r,.int .i64 0]))):=hid λr h h2=>⟨r,by rw[HE.out],by omega,λ_=>⟨λh3=>by omega,λh3=>by rw[h2] at h3;cases h3⟩⟩;have Gc:Hid (lay ws=true->zc ws (.returned (.tuple #[.int .i64 0,.int .i64 0]))):=hid λh=>⟨0,by rw[HE.out],kk8 _,λ_=>⟨λ_=>h,λ_=>rfl⟩⟩;rw[HE.out] at Fp;have HR:=hid hr;have Gi:=hid ho;have hlen:256<=ws.length/\ws.length<=2048:=by omega
 have hi5:(prog.info? 163).map (·.size)=some (#[.slice none 0 0,.slice none 0 0,.slice none 0 0,.slice none 0 0,.map none]:Array Value).size:=tZ;unfold PtRes at Gf;clear hs hr ho hm hc Q;go_enter func51,ntmps51;go_wp2_with fail;refine Fp.out.mono ?_;rintro e w1 ⟨rfl,rfl⟩;go_wp2_with fail;refine Gf.out.mono ?_;rintro e J ⟨⟨r,sv,rfl,Jd,U,I⟩,Fw⟩;have Fx:=hid Fw;have Fo:=Fw.size;clear Fw;by_cases h0:r=0
 .subst h0;obtain⟨t,l,P⟩:=I rfl;have PQ:=hid P;obtain⟨m,a,B,d,z,o,y,L,rfl,hL,Gd,hS,hO,hM⟩:=P.mem;have Fu:=hid (pJ P.ty P.bl);have HK:=hid (zn P.tys Gd);have Ja:=hid hL;have Jf:=hid hS;have Gs:=hid hO;have Gt:=hid hM;have Gu:=hid Gd;have Fq:(aK l).length<=1000000:=by have:=(a9 (by omega) _ _ P.bl (by omega) (by omega) (by omega)).1;have:=kxm (λb:Bk=>b.kind==1) l;unfold aK;omega
  have Z:=hid Fq;have Gx:=hM.lt;clear U I P hL Gd hS hO hM Fq Jd;have Gb:((J.alloc (.cells #[.slice A ws.length c,.slice m L.length d,.slice a 16 z,.slice B (aK l).length o,.map (some y)] 163)).alloc (.cells #[.func (.func 95) #[.agg #[.slice A ws.length c,.slice m L.length d,.slice a 16 z,.slice B (aK l).length o,.map (some y)]] #[],.func (.func 96) #[.agg #[.slice A ws.length c,.slice m L.length d,.slice a 16 z,.slice B (aK l).length o,.map (some y)]] #[],.func (.func 97) #[.agg #[.slice A ws.length c,.slice m L.length d,.slice a 16 z,.slice B (aK l).length o,.map (some y)]] #[],.func (.func 98) #[.agg #[.slice A ws.length c,.slice m L.length d,.slice a 16 z,.slice B (aK l).length o,.map (some y)]] #[],.func (.func 99) #[.agg #[.slice A ws.length c,.slice m L.length d,.slice a 16 z,.slice B (aK l).length o,.map (some y)]] #[]] 166)).heap.size=J.heap.size+1+1:=by simp
  have b24:=((kqk J.heap.size J).alloc (kqb _) (.cells #[.slice A ws.length c,.slice m L.length d,.slice a 16 z,.slice B (aK l).length o,.map (some y)] 163)).alloc (by simp) (.cells #[.func (.func 95) #[.agg #[.slice A ws.length c,.slice m L.length d,.slice a 16 z,.slice B (aK l).length o,.map (some y)]] #[],.func (.func 96) #[.agg #[.slice A ws.length c,.slice m L.length d,.slice a 16 z,.slice B (aK l).length o,.map (some y)]] #[],.func (.func 97) #[.agg #[.slice A ws.length c,.slice m L.length d,.slice a 16 z,.slice B (aK l).length o,.map (some y)]] #[],.func (.func 98) #[.agg #[.slice A ws.length c,.slice m L.length d,.slice a 16 z,.slice B (aK l).length o,.map (some y)]] #[],.func (.func 99) #[.agg #[.slice A ws.length c,.slice m L.length d,.slice a 16 z,.slice B (aK l).length o,.map (some y)]] #[]] 166)
  have BX4:=(Bx.new J 163 #[.slice A ws.length c,.slice m L.length d,.slice a 16 z,.slice B (aK l).length o,.map (some y)]).alloc (.cells #[.func (.func 95) #[.agg #[.slice A ws.length c,.slice m L.length d,.slice a 16 z,.slice B (aK l).length o,.map (some y)]] #[],.func (.func 96) #[.agg #[.slice A ws.length c,.slice m L.length d,.slice a 16 z,.slice B (aK l).length o,.map (some y)]] #[],.func (.func 97) #[.agg #[.slice A ws.length c,.slice m L.length d,.slice a 16 z,.slice B (aK l).length o,.map (some y)]] #[],.func (.func 98) #[.agg #[.slice A ws.length c,.slice m L.length d,.slice a 16 z,.slice B (aK l).length o,.map (some y)]] #[],.func (.func 99) #[.agg #[.slice A ws.length c,.slice m L.length d,.slice a 16 z,.slice B (aK l).length o,.map (some y)]] #[]] 166)
  have BF4:=Bx.new (J.alloc (.cells #[.slice A ws.length c,.slice m L.length d,.slice a 16 z,.slice B (aK l).length o,.map (some y)] 163)) 166 #[.func (.func 95) #[.agg #[.slice A ws.length c,.slice m L.length d,.slice a 16 z,.slice B (aK l).length o,.map (some y)]] #[],.func (.func 96) #[.agg #[.slice A ws.length c,.slice m L.length d,.slice a 16 z,.slice B (aK l).length o,.map (some y)]] #[],.func (.func 97) #[.agg #[.slice A ws.length c,.slice m L.length d,.slice a 16 z,.slice B (aK l).length o,.map (some y)]] #[],.func (.func 98) #[.agg #[.slice A ws.length c,.slice m L.length d,.slice a 16 z,.slice B (aK l).length o,.map (some y)]] #[],.func (.func 99) #[.agg #[.slice A ws.length c,.slice m L.length d,.slice a 16 z,.slice B (aK l).length o,.map (some y)]] #[]];rw[kqn] at BF4;have C:=hid (λW (Q:Below J.heap.size J W)=>(And.intro (Gs.out.up Q Q.size) (And.intro (Ja.out.up Q Q.size) (And.intro (Jf.out.up Q Q.size) (dT Gt.out (Q.block _ Gx))))));go_wp2_with fail
  obtain⟨M,Gl⟩:=xq ((J.alloc (.cells #[.slice A ws.length c,.slice m L.length d,.slice a 16 z,.slice B (aK l).length o,.map (some y)] 163)).alloc (.cells #[.func (.func 95) #[.agg #[.slice A ws.length c,.slice m L.length d,.slice a 16 z,.slice B (aK l).length o,.map (some y)]] #[],.func (.func 96) #[.agg #[.slice A ws.length c,.slice m L.length d,.slice a 16 z,.slice B (aK l).length o,.map (some y)]] #[],.func (.func 97) #[.agg #[.slice A ws.length c,.slice m L.length d,.slice a 16 z,.slice B (aK l).length o,.map (some y)]] #[],.func (.func 98) #[.agg #[.slice A ws.length c,.slice m L.length d,.slice a 16 z,.slice B (aK l).length o,.map (some y)]] #[],.func (.func 99) #[.agg #[.slice A ws.length c,.slice m L.length d,.slice a 16 z,.slice B (aK l).length o,.map (some y)]] #[]] 166));rw[Gl] at Gb b24 BX4 BF4 |-;have E:=hid b24;have N:=hid (Fx.out.trans (b24.mono Fo));have BX:=hid BX4;have BF:=hid BF4;have HS4:=hid Gb
  have Gy:Hid (∀k,k<5->Fn ws (gx ws t 8) (aK l) k->∃f,(#[.func (.func 95) #[.agg #[.slice A ws.length c,.slice m L.length d,.slice a 16 z,.slice B (aK l).length o,.map (some y)]] #[],.func (.func 96) #[.agg #[.slice A ws.length c,.slice m L.length d,.slice a 16 z,.slice B (aK l).length o,.map (some y)]] #[],.func (.func 97) #[.agg #[.slice A ws.length c,.slice m L.length d,.slice a 16 z,.slice B (aK l).length o,.map (some y)]] #[],.func (.func 98) #[.agg #[.slice A ws.length c,.slice m L.length d,.slice a 16 z,.slice B (aK l).length o,.map (some y)]] #[],.func (.func 99) #[.agg #[.slice A ws.length c,.slice m L.length d,.slice a 16 z,.slice B (aK l).length o,.map (some y)]] #[]]:Array Value)[k]? = some f/\∀W,Below M.heap.size M W->Calls prog 100 #[.agg #[.slice A ws.length c,.slice m L.length d,.slice a 16 z,.slice B (aK l).length o,.map (some y)],f] W λe w'=>e=.returned (.bool ((aK l).all λb=>!wrK ws (gx ws t 8) (aK l) (7+k) b))/\Below W.heap.size W w'):=hid λk hk Gg=>by
   have hP:=PQ.out;have F:∀W,Below M.heap.size M W->Below J.heap.size J W:=λW D=>E.out.trans (D.mono E.out.size);rw[<-Gu.out] at Gg |-;have Fv:=λW (D:Below M.heap.size M W)=>HR.out.up (Fx.out.trans ((F W D).mono Fo)) (kzv Fo (F W D).size);have h8:2<=k->∀b∈aK l,wrK ws (L.map Ty.l) (aK l) 8 b=false:=λh b Q=>Gg 8 (by omega) (by omega) b Q;rcases (show k=0\/k=1\/k=2\/k=3\/k=4 by omega) with rfl|rfl|rfl|rfl|rfl
   .exact ⟨_,rfl,λW D=>Cz hP.bl Z.out (C.out W (F W D)).1⟩
   .exact ⟨_,rfl,λW D=>zH hP.bl Z.out rfl HK.out (C.out W (F W D)).1 (C.out W (F W D)).2.1⟩
   .exact ⟨_,rfl,λW D=>vc hP.bl Z.out rfl (by omega) rfl HK.out (h8 (by omega)) (C.out W (F W D)).1 (C.out W (F W D)).2.1 (Fv W D)⟩
   .exact ⟨_,rfl,λW D=>ut hP.bl Z.out rfl (by omega) rfl Gi.out HK.out (h8 (by omega)) (C.out W (F W D)).1 (C.out W (F W D)).2.1 (Fv W D)⟩
   exact⟨_,rfl,λW D=>Cd hP.bl Z.out rfl (by omega) rfl Gi.out HK.out (h8 (by omega)) (C.out W (F W D)).1 (C.out W (F W D)).2.1 (Fv W D) (C.out W (F W D)).2.2.2⟩
  have Gz:Hid (Fn ws (gx ws t 8) (aK l) 0):=hid λr h1 h2=>by omega
  have Jg:=hid (λk h h1=>yi (ws:=ws) (T:=gx ws t 8) (O:=aK l) (k:=k) h h1);have Gw:=hid (λk h h1=>Ce (ws:=ws) (T:=gx ws t 8) (O:=aK l) (k:=k) h h1);have Ji:J.heap.size+1<M.heap.size:=by omega
  have Ft:J.heap.size<M.heap.size:=by omega
  clear Gl Gb b24 BX4 BF4;go_loopw [36] (λi wr=>∃k:Nat,k<=5/\i=.int .i64 k/\Hid (Fn ws (gx ws t 8) (aK l) k)/\Below M.heap.size M wr) (λi _=>5-(intOf i).toNat)
  case atStart=>exact⟨0,by omega,rfl,Gz,kqk _ _⟩
  obtain⟨k,hk,rfl,HT,G⟩:=hrel;by_cases H:k<5
  .obtain ⟨f,hf,hC⟩:=Gy.out k H HT.out;have hc0:=(G.cell (p:=⟨J.heap.size+1,k,none⟩) Ji).trans ((BF.out.cell k).trans hf);have HC:=hid (hC wr G);have Gn:=hid (Jg.out k HT.out);have Gh:=hid (Gw.out k H);obtain⟨q,hq⟩:=xq (((aK l).all λb=>!wrK ws (gx ws t 8) (aK l) (7+k) b));rw[hq] at HC Gn Gh;obtain⟨q0,q1,q2,q3,q4,-,-⟩:=(BX.out.up G Ft).c5;have Eq:=hid G;have hz:=G.size;have hki:(k:Int)<5:=by omega
   have hk0:(0:Int)<=(k:Int):=by omega
   clear hf hC hq G;cases q
   .have K:=hid (V.out (7+k) (by omega) (by
     cases hq:lay ws with
     | false=>rfl
     | true=>exact absurd (Fu.out.1 hq).2.2.2.2.2.1 (Gh.out rfl)))
    go_wp2_with fail;refine HC.out.mono ?_;rintro e w5 ⟨rfl,Y⟩;have Ga:=hid (N.out.trans ((Eq.out.trans (Y.mono hz)).mono N.out.size));clear Y;go_wp2;go_ret2;exact⟨K.out,Ga.out⟩
   have K:=hid (Gn.out rfl);go_wp2_with fail;refine HC.out.mono ?_;rintro e w5 ⟨rfl,Y⟩;have Ga:=hid (Eq.out.trans (Y.mono hz));clear Y;go_wp2;go_roundw
   case rel=>exact⟨k+1,by omega,by go_num,K,Ga.out⟩
   case measure=>simp[intOf];omega
  have Gr:=hid (show Fn ws (gx ws t 8) (aK l) 5 from λr h1 h2 b Q=>HT.out r h1 (by omega) b Q);have Fr:decide ((k:Int)<5)=false:=by rw[kqc];omega
  have X:decide (k<5)=false:=by rw[kqc];exact H
  obtain⟨-,-,q2,-,-,-,-⟩:=(BX.out.up G Ft).c5;have Eq:=hid G;clear H hk HT G;go_wp2_with fail;have Gp:Hid (mL (aK l) (slL ws) 0):=hid λi h h1=>by omega
  have Jh:=hid (λk hk h h1=>rk (O:=aK l) (S:=slL ws) (k:=k) hk h h1);have Gj:=hid (el ws);have Gq:Hid (mL (aK l) (slL ws) 16->lay ws=true):=hid λh=>Fu.out.2 ⟨PQ.out.z1,PQ.out.z2,PQ.out.tys,PQ.out.sls,PQ.out.adj,Gr.out,λs hs=>by
   obtain⟨i,hi,rfl⟩:=kqv hs;exact h i hi (by rw[Gj.out] at hi;exact hi)⟩
  have Jb:Hid (∀k (hk:k<(slL ws).length),jI (aK l) (slL ws)[k]=false->lay ws=false):=hid λk hk h=>by
   cases hq:lay ws with
   | false=>rfl
   | true=>rw[(Fu.out.1 hq).2.2.2.2.2.2 _ (kqs hk)] at h;cases h
  have Jc:Hid (∀k (hk:k<(slL ws).length),∃g v:Nat,(slL ws)[k]=⟨(g:Int),(slL ws)[k].used,(v:Int)⟩/\v<4294967296):=hid λk hk=>by
   rw[lk ws hk];exact⟨_,_,rfl,kz1 _ (by decide)⟩
  clear Fr X q2;go_loopw [51] (λi wr=>∃k:Nat,k<=16/\i=.int .i64 k/\Hid (mL (aK l) (slL ws) k)/\Below M.heap.size M wr) (λi _=>16-(intOf i).toNat)
  case atStart=>exact⟨0,by omega,rfl,Gp,Eq.out⟩
  obtain⟨j,hj,rfl,HT,G⟩:=hrel;by_cases H:j<16
  .have R:j<(slL ws).length:=by rw[Gj.out];exact H
   obtain⟨bS,oS,rfl,hbS,p0,p1,p2⟩:=RdS.at_ (show RdS wr wr.heap.size a (slL ws) from (C.out wr (E.out.trans (G.mono E.out.size))).2.2.1) R;obtain⟨g,v,hx,hv⟩:=Jc.out j R;have Fz:=hid (Jh.out j R HT.out);have Gm:=hid (Jb.out j R);obtain⟨x,Gk⟩:=xq ((slL ws)[j]);rw[Gk] at p0 p1 p2 hx Fz Gm;obtain⟨u,hu⟩:=xq x.used;rw[hu] at p1 hx;subst hx;dsimp only at p0 p2;have hjj:(j:Int)<16:=by omega
   have hj0:(0:Int)<=(j:Int):=by omega
   obtain⟨-,-,-,-,q4,-,-⟩:=(BX.out.up G Ft).c5;have hgw:J.heap.size<wr.heap.size:=by have:=G.size;omega
   have hz:=G.size;have Fs:=hid (G.alloc hz (.cells #[.int .i64 (g:Int),.bool u,.int .i64 (v:Int)] 52));have Gv:=hid ((C.out wr (E.out.trans (G.mono E.out.size))).2.2.2.alloc (.cells #[.int .i64 (g:Int),.bool u,.int .i64 (v:Int)] 52));clear Gk hu R G;cases u
   .have K:=hid (Fz.out rfl);go_wp2;go_roundw
    case rel=>exact⟨j+1,by omega,by go_num,K,Fs.out⟩
    case measure=>simp[intOf];omega
   have Ge:(Lit.int .i64 (v:Int)).wf=true:=by simp[Lit.wf,IntKind.min,IntKind.max,IntKind.signed,IntKind.bits];omega
   have Je:=mx Gv.out yf underlying161 underlying4 (tC _) (keyOf_int_mk (P:=prog) underlying3 Ge) (c:=lK (aK l) v) (by rw[qh,tv]);have Fy:Hid (jI (aK l) ⟨(g:Int),true,(v:Int)⟩=lK (aK l) v):=hid (by unfold jI;simp);obtain⟨q,hq⟩:=xq (lK (aK l) v);rw[hq] at Je Fy;clear Ge hq hv;cases q
   .have K:=hid (V.out 12 (by decide) (Gm.out Fy.out));go_wp2;go_ret2;exact⟨K.out,N.out.trans (Fs.out.mono N.out.size)⟩
   have K:=hid (Fz.out Fy.out);go_wp2;go_roundw
   case rel=>exact⟨j+1,by omega,by go_num,K,Fs.out⟩
   case measure=>simp[intOf];omega
  have Fr:decide ((j:Int)<16)=false:=by rw[kqc];omega
  have X:decide (j<16)=false:=by rw[kqc];exact H
  have K:=hid (Gc.out (Gq.out (by have:=HT.out;rwa [show j=16 by omega] at this)));clear H hj HT;go_wp2;go_ret2;exact⟨K.out,N.out.trans (G.mono N.out.size)⟩
 obtain⟨hl,rfl⟩:=U h0;have K:=hid (V.out r (by omega) hl);have e1:(r != 0)=true:=by rw[kqt];exact h0
 clear U I;go_wp2;go_ret2;exact⟨K.out,Fx.out.alloc Fo _⟩
theorem zv(A:Option Addr)(ws:List Nat)(c n:Nat)(w:World)(hn:ws.length=n)(hm:n<=9223372036854775807)(hc:n<=c)(hr:RdW w w.heap.size A ws)(ho:∀x∈ws,x<18446744073709551616):
 Calls prog 16 #[.slice A n c] w λe w'=>e=.returned (.int .i64 (bv ws))/\Below w.heap.size w w':=by
 subst hn;have f:=hid (uU A ws c ws.length w rfl hm hc hr ho);unfold zc at f;clear hr ho hc hm;cases d:ak (ws.length:Int)
 .have g:Hid (bv ws=8):=hid (by unfold bv;rw[d];rfl);rw[bJ d] at f;clear d;go_enter func16,ntmps16;go_wp2_with fail;refine f.out.mono ?_;rintro e o ⟨⟨r,rfl,-,-⟩,b⟩;go_wp2;go_ret;exact⟨by rw[g.out];rfl,b⟩
 have g:Hid (bv ws=if lay ws=true then 0 else 50):=hid (by unfold bv;rw[d];rfl);rw[aW d] at f;have m:=hid d;clear d;go_enter func16,ntmps16;go_wp2_with fail;refine f.out.mono ?_;rintro e o ⟨⟨r,rfl,k,i⟩,b⟩;have j:=hid (i m.out);clear i;by_cases a:r=0
 .have h:=hid (j.out.1 a);subst a;go_wp2;go_ret;exact⟨by rw[g.out,h.out];rfl,b⟩
 have h:Hid (lay ws=false):=hid (by
  cases l:lay ws with
  | false=>rfl
  | true=>exact absurd (j.out.2 l) a)
 have d1:decide ((0:Int)<r)=true:=by rw[kql];omega
 clear a k;go_wp2;go_ret;exact⟨by rw[g.out,h.out];rfl,b⟩
end Go.Proofs.YtpcajamacpbjcaaGreat
