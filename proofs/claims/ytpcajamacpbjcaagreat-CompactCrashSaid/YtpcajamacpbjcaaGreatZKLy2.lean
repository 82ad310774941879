/- Texts laid together: LyE LyF LyG LyH. -/
import Derived.Test.YtpcajamacpbjcaaGreatZKLy1
import Derived.Test.YtpcajamacpbjcaaGreatZKCp2
import Derived.Laws.EntriesVeiled
set_option maxHeartbeats 16000000
set_option maxRecDepth 100000
set_option linter.all false
namespace Go.Proofs.YtpcajamacpbjcaaGreat
open Lib (hid)
open Go.RowKit Go.Maps
variable {T:List (List Nat)}{O:List Bk}{ws:List Nat}{k:Nat}
open Go.Proofs.Tryz
theorem jn(f:FuncId)(A TA SA OA:Option Addr)(O:List Bk)(p:Bk->Bool)(c n tc tn sc sn oc on mb:Nat)(w:World)(ho:O.length=on)(hm:on<=1000000)(hO:RdB w w.heap.size OA O)(hcf:∀args W,(callFunc f args).run prog W=.ok (.enter f args) W)(HF:∀k (h:k<O.length) W,Below w.heap.size w W->Calls prog f #[.agg #[.slice A n c,.slice TA tn tc,.slice SA sn sc,.slice OA on oc,.map (some mb)],O[k].val] W λe w'=>e=.returned (.bool (p O[k]))/\Below W.heap.size W w'):
 Calls prog 100 #[.agg #[.slice A n c,.slice TA tn tc,.slice SA sn sc,.slice OA on oc,.map (some mb)],.func (.func f) #[.agg #[.slice A n c,.slice TA tn tc,.slice SA sn sc,.slice OA on oc,.map (some mb)]] #[]] w λe w'=>e=.returned (.bool (O.all p))/\Below w.heap.size w w':=by
 subst ho;have C:=hid (Bx.new w 163 #[.slice A n c,.slice TA tn tc,.slice SA sn sc,.slice OA O.length oc,.map (some mb)]);have L:=hid ((kql w.heap.size w).alloc (kqd _) (.cells #[.slice A n c,.slice TA tn tc,.slice SA sn sc,.slice OA O.length oc,.map (some mb)] 163));have HR:=hid hO;have E:=hid HF;have t:=hid hcf;have R:Hid ((∀j (h:j<O.length),p O[j]=true)->O.all p=true):=hid λh=>kzu.2 λx z=>by
  obtain⟨j,s,rfl⟩:=kqz z;exact h j s
 have HN:Hid (∀j (h:j<O.length),p O[j]=false->O.all p=false):=hid λj s h=>by
  cases B:O.all p with
  | false=>rfl
  | true=>rw[kzu.1 B _ (kqp s)] at h;cases h
 obtain⟨D,o⟩:=xq (w.alloc (.cells #[.slice A n c,.slice TA tn tc,.slice SA sn sc,.slice OA O.length oc,.map (some mb)] 163));have G:=hid (show Below w.heap.size w D by rw[<-o];exact L.out);rw[o] at C;obtain⟨q0,q1,q2,q3,q4,-,-⟩:=C.out.c5;clear hO HF C L hcf;go_enter func100,ntmps100;go_wp2_with fail;clear o;go_loopw [10] (λi wr=>∃k:Nat,k<=O.length/\i=.int .i64 k/\Hid (∀j (h:j<O.length),j<k->p O[j]=true)/\Below w.heap.size w wr) (λi _=>O.length-(intOf i).toNat)
 case atStart=>exact⟨0,kqy _,rfl,hid λj _ h=>absurd h (by omega),G.out⟩
 obtain⟨k,hk,rfl,K,y⟩:=hrel;have hz:=y.size;by_cases g:k<O.length
 .obtain ⟨b,off,rfl,Z,M,J,I,N,H,P⟩:=RdB.at_ (Rd.below HR.out y) g;have v:=hid (E.out k g);have l:Hid (p O[k]=true->∀j (h:j<O.length),j<k+1->p O[j]=true):=hid λS j s h=>by
   rcases kq6 j k with Q|Q
   .exact K.out j s Q
   have:j=k:=by omega
   subst this;exact S
  have m:=hid (HN.out k g);obtain⟨x,z⟩:=xq (O[k]);rw[z] at M J I N H P v l m;obtain⟨q,B⟩:=xq (p x);rw[B] at v l m;obtain⟨xa,xs,Y,T,X,U⟩:=x;dsimp only[Bk.val] at M J I N H P v;have hki:(k:Int)<(O.length:Int):=by omega
  have hk0:(0:Int)<=(k:Int):=by omega
  have a:=hid (y.alloc hz (.cells #[.int .i64 xa,.int .i64 xs,.int .i64 Y,.int .i64 T,.bool X,.int .u64 (U:Int)] 55));clear z B Z;cases q
  .have u:=hid (m.out rfl);go_wp2_with fail;rw[t.out];simp only[Oper.upon];refine (v.out _ a.out).mono ?_;rintro e V ⟨rfl,d⟩;have r:=hid (a.out.trans (d.mono a.out.size));clear d;go_wp2;go_ret;exact⟨by rw[u.out];rfl,r.out⟩
  have u:=hid (l.out rfl);go_wp2_with fail;rw[t.out];simp only[Oper.upon];refine (v.out _ a.out).mono ?_;rintro e V ⟨rfl,d⟩;have r:=hid (a.out.trans (d.mono a.out.size));clear d;go_wp2;go_roundw
  case rel=>exact⟨k+1,by omega,by go_num,u,r.out⟩
  case measure=>simp[intOf];omega
 have F:k=O.length:=by omega
 have u:=hid (R.out λj s=>K.out j s (by omega));have hend:decide ((k:Int)<(O.length:Int))=false:=by rw[kqh];omega
 have hendn:decide (k<O.length)=false:=by rw[kqh];exact g
 clear F g hk;go_wp2;go_ret;exact⟨by rw[u.out];rfl,y⟩
theorem tZ:(prog.info? 163).map (·.size)=some 5:=by kernel_rfl
theorem zeroSg(w:World):(zeroValue 163).run prog w=.ok (.agg #[.slice none 0 0,.slice none 0 0,.slice none 0 0,.slice none 0 0,.map none]) w:=by kernel_rfl
theorem fh{fn:Func}{p q:Tmp}(h:fn.results=#[.cell p 163,.tmp q])(tmps:Array Value){W:World}{g:Nat}{t:TypeId}{cs:Array Value}{u:Value}(hb:Bx W g t cs)(hs:cs.size=5)(hp:tmps.getD p undef=.pointer (some ⟨g,0,none⟩))(hq:tmps.getD q undef=u):
 (results fn tmps).run prog W=.ok (.tuple #[.agg cs,u]) W:=by
 have b:tmps[p]?.getD undef=.pointer (some ⟨g,0,none⟩):=by simpa using hp
 have a:tmps[q]?.getD undef=u:=by simpa using hq
 have d:(prog.info? 163).map (·.size)=some cs.size:=by rw[hs];exact tZ
 have c:=run_loadVar_row W g t 163 cs (0,0) _ hb underlying163 rfl d;simp[results,h,b,a,asAddr,c]
structure PtOk (ws:List Nat) (A:Option Addr) (n c:Nat) (w':World) (sv:Array Value) (t:Nat) (l:List Bk):Prop where
 ty:tyN ws=some t
 bl:blocks ws 128=some l
 z1:fe ws 16=true
 z2:fe ws 24=true
 tys:gK ws t=true
 sls:slsOk ws=true
 adj:jX l=true
 mem:∃(TA SA OA:Option Addr) (tc sc oc mb:Nat) (L:List Ty),sv=#[.slice A n c,.slice TA L.length tc,.slice SA 16 sc,.slice OA (aI l).length oc,.map (some mb)]/\RdL w' w'.heap.size TA L/\L.map Ty.l=gn ws t 8/\RdS w' w'.heap.size SA (slL ws)/\RdB w' w'.heap.size OA (aI l)/\w'.ownsMap prog 3 (plainElem prog 4) mb (aI l).length (fg ((aI l).map Bk.at_) (aI l).length)
def PtRes (ws:List Nat) (A:Option Addr) (n c:Nat) (e:Ending) (w':World):Prop:=∃(r:Int) (sv:Array Value),e=.returned (.tuple #[.agg sv,.int .i64 r])/\0<=r/\(r≠0->lay ws=false/\sv=#[.slice none 0 0,.slice none 0 0,.slice none 0 0,.slice none 0 0,.map none])/\(r=0->∃t l,PtOk ws A n c w' sv t l)
def Fn (H:Nat) (ws:List Nat) (e:Ending) (w':World):Prop:=(dA ws=0->∃g,e=.returned (.tuple #[.slice (some ⟨g,0,none⟩) 16 16,.int .i64 (dA ws)])/\H<=g/\Bx w' g 118 ((slL ws).flatMap Sl.cells).toArray)/\(dA ws≠0->e=.returned (.tuple #[.slice none 0 0,.int .i64 (dA ws)]))
theorem Gy(A:Option Addr)(ws:List Nat)(c n:Nat)(w:World)(hn:ws.length=n)(hm:n<=9223372036854775807)(t:RdW w w.heap.size A ws)(ho:∀x∈ws,x<18446744073709551616):
 Calls prog 25 #[.slice A n c] w λe w'=>Fn w.heap.size ws e w'/\Below w.heap.size w w':=by
 have m:=hid (yt A ws c n w hn hm t ho);clear t ho hn hm;have p:=f9;by_cases i:dA ws=0
 .have b:eX ws=slL ws:=by simp[eX,i]
  have G:=hid (And.intro i b);have I:=eZ ws;rw[i,FI i] at m;have d:(ij (slL ws)).size=48:=by rw[ip,eZ]
  obtain⟨l,o⟩:=xq (slL ws);have H:=hid o;rw[o] at d m I G;have z:Hid (ij l=(l.flatMap Sl.cells).toArray):=hid rfl;have J:=hid (kQ l);obtain⟨cs,y⟩:=xq (ij l);rw[y] at m d z J;have k:(prog.info? 118).map (·.size)=some cs.size:=by rw[d];exact kb
  clear i b o y I p;go_enter func25,ntmps25;go_wp2_with fail;refine m.out.mono ?_;rintro e u ⟨rfl,a⟩;have E:=np;have D:cs.size=bP.size:=by rw[d,f9]
  have v:=Bx.new u 118 bP;have F:=hid v;have s:=hid (a.alloc a.size (.cells bP 118));have j:=a.size;clear v a;go_wp2_with (first
   | ((with_reducible refine aq 118 (.tmp 4) _ ?_);refine ak rfl _ _ _ rfl u.heap.size 118 bP cs (by rfl) (by rfl) F.out D k J.out ?_;intro M g f;have C:=hid g;have q:=hid (f.below s.out j);clear g f))
  go_ret2;refine⟨⟨λ_=>⟨u.heap.size,by rw[G.out.1];rfl,j,?_⟩,λh=>absurd G.out.1 h⟩,q.out⟩;have:=C.out;rw[z.out] at this;rw[H.out];exact this
 have b:eX ws=[]:=by simp[eX,i]
 rw[CA i] at m;obtain⟨r,t⟩:=xq (dA ws);have K:=hid t;rw[t] at m i;have L:=hid i;have hrn:(r != 0)=true:=by rw[kqv];exact i
 have j:=hid lJ;have k:(prog.info? 118).map (·.size)=some bP.size:=by rw[p];exact kb
 clear i b t p;go_enter func25,ntmps25;go_wp2_with fail;refine m.out.mono ?_;rintro e u ⟨rfl,a⟩;have E:=np;have v:=Bx.new u 118 bP;have F:=hid v;have s:=hid (a.alloc a.size (.cells bP 118));have B:=a.size;clear v a;go_wp2_with (first
  | ((with_reducible refine aq 118 (.tmp 4) _ ?_);refine ak rfl _ _ _ rfl u.heap.size 118 bP bP (by rfl) (by rfl) F.out rfl k j.out ?_;intro M g f;have C:=hid g;have q:=hid (f.below s.out B);clear g f))
 go_ret2;exact⟨⟨λh=>absurd (K.out.symm.trans h) L.out,λ_=>by rw[K.out];rfl⟩,q.out⟩
structure PtS (wr:World) (H0 H3 H7 gs:Nat) (ws:List Nat) (TB AW:Option Addr) (td cW:Nat) (L:List Ty) (l:List Bk):Prop where
 x:Bx wr H0 163 #[.slice none 0 0,.slice none 0 0,.slice none 0 0,.slice none 0 0,.map none]
 t:ub wr H3 (.slice TB L.length td) L
 s:Bx wr gs 118 ((slL ws).flatMap Sl.cells).toArray
 b:wr.ownsRow H7 55 6 (.slice AW l.length cW) l.length (l.flatMap Bk.cells)
section
variable {wr wr':World} {H0 H3 H7 gs:Nat} {ws:List Nat} {TB AW:Option Addr} {td cW:Nat} {L:List Ty} {l:List Bk}
theorem PtS.alloc(h:PtS wr H0 H3 H7 gs ws TB AW td cW L l)(o:Obj):PtS (wr.alloc o) H0 H3 H7 gs ws TB AW td cW L l:=
 ⟨h.x.alloc o,⟨h.t.1.alloc o,λy a=>(h.t.2 y a).alloc o⟩,h.s.alloc o,h.b.alloc o⟩
theorem PtS.set_(h:PtS wr H0 H3 H7 gs ws TB AW td cW L l){p:Addr}(h0:H0≠p.block)(h3:p.block<H3)(h37:H3<=H7)(hg:H7<=gs)(u:Value):PtS (wr.setCell p u) H0 H3 H7 gs ws TB AW td cW L l:=
 ⟨h.x.far h0 u,⟨au h.t.1 (bK h.t.1 h3).symm u,λy a=>au (h.t.2 y a) (bK (h.t.2 y a) h3).symm u⟩,h.s.far (by omega) u,au h.b (bK h.b (by omega)).symm u⟩
theorem PtS.grown(h:PtS wr H0 H3 H7 gs ws TB AW td cW L l){row:Option Nat}(hg:wr.grownBy wr' row)(h0:some H0≠row)(hgs:some gs≠row)(h1:(Value.slice TB L.length td).ownBlock=none\/(Value.slice TB L.length td).ownBlock≠row)(h2:∀y∈L,(Value.slice y.A y.l.length y.c).ownBlock=none\/(Value.slice y.A y.l.length y.c).ownBlock≠row)(h3:(Value.slice AW l.length cW).ownBlock=none\/(Value.slice AW l.length cW).ownBlock≠row):PtS wr' H0 H3 H7 gs ws TB AW td cW L l:=
 ⟨h.x.grown hg h0,⟨bu h.t.1 hg h1,λy a=>bu (h.t.2 y a) hg (h2 y a)⟩,h.s.grown hg hgs,bu h.b hg h3⟩
def ptBk (B H0 gs:Nat) (TB AW:Option Addr) (td cW:Nat) (L:List Ty) (l:List Bk):Prop:=∀r,B<=r->H0≠r/\gs≠r/\(Value.slice TB L.length td).ownBlock≠some r/\(∀y∈L,(Value.slice y.A y.l.length y.c).ownBlock≠some r)/\(Value.slice AW l.length cW).ownBlock≠some r
theorem PtS.bk(h:PtS wr H0 H3 H7 gs ws TB AW td cW L l):ptBk wr.heap.size H0 gs TB AW td cW L l:=λr hr=>by
 refine⟨by have:=h.x.lt;omega,by have:=h.s.lt;omega,λe=>?_,λy a e=>?_,λe=>?_⟩
 .have:=(h.t.1.lt r e).2;omega
 .have:=((h.t.2 y a).lt r e).2;omega
 .have:=(h.b.lt r e).2;omega
theorem PtS.late(h:PtS wr H0 H3 H7 gs ws TB AW td cW L l){B:Nat}(hk:ptBk B H0 gs TB AW td cW L l){n:Nat}{v:Value}{xs:List Value}{e:TypeId}{sz:Nat}{wa:World}(hown:wa.ownsRow B e sz v n xs)(hg:wr.grownBy wr' v.ownBlock):PtS wr' H0 H3 H7 gs ws TB AW td cW L l:=by
 cases a:v.ownBlock with
 | none=>exact h.grown hg (by rw[a];simp) (by rw[a];simp) (by rw[a];exact Classical.em _) (λy _=>by rw[a];exact Classical.em _) (by rw[a];exact Classical.em _)
 | some r =>obtain⟨g,c,d,b,f⟩:=hk r (hown.lt r a).1;exact h.grown hg (by rw[a];simpa using g) (by rw[a];simpa using c) (.inr (by rw[a];exact d)) (λy i=>.inr (by rw[a];exact b y i)) (.inr (by rw[a];exact f))
end
theorem GH{l:List Bk}(hk:k<l.length)(h1:l[k].kind=1):(aI l)[(aI (l.take k)).length]? = some l[k]:=by
 have e:l=l.take k++l[k]::l.drop (k+1):=by rw[List.getElem_cons_drop];exact (kxg k l).symm
 have a:aI l=aI (l.take k)++l[k]::aI (l.drop (k+1)):=by
  conv=>lhs;rw[e]
  unfold aI;rw[kx8,kkx (by rw[kqw];exact h1)]
 rw[a,kxh (kqd _)];simp
theorem yc(A:Option Addr)(ws:List Nat)(c n:Nat)(w:World)(hn:ws.length=n)(hs:aj (n:Int)=true)(hc:n<=c)(U:RdW w w.heap.size A ws)(ho:∀x∈ws,x<18446744073709551616):
 Calls prog 94 #[.slice A n c] w λe w'=>PtRes ws A n c e w'/\Below w.heap.size w w':=by
 subst hn;have hb:=(aa _).1 hs;have HR:=hid U;have D:=hid (λW (U:RdW W W.heap.size A ws)=>DU A ws c ws.length W rfl (by omega) hc U);unfold yK at D;have Jd:jf ws=if (tyN ws).isSome=true then 0 else 50:=by unfold jf;rw[if_pos hs]
 have Kc:=hid (λW (U:RdW W W.heap.size A ws)=>(show Calls prog 157 #[.slice A ws.length c,.int .i64 16] W λe w'=>e=.returned (.bool (fe ws 16))/\W=w' from tR A ws c ws.length 16 W rfl (by omega) (by omega) hc U));have Ka:=hid (λW (U:RdW W W.heap.size A ws)=>(show Calls prog 157 #[.slice A ws.length c,.int .i64 24] W λe w'=>e=.returned (.bool (fe ws 24))/\W=w' from tR A ws c ws.length 24 W rfl (by omega) (by omega) hc U));have Ks:=hid (λW (U:RdW W W.heap.size A ws)=>Gy A ws c ws.length W rfl (by omega) U ho);have Kg:=hid (λW (U:RdW W W.heap.size A ws)=>Hr A ws c ws.length W rfl (by omega) U ho);unfold Fn at Ks;unfold yU at Kg;have hzv:=zeroSg;have Z:(prog.info? 163).map (·.size)=some (#[.slice none 0 0,.slice none 0 0,.slice none 0 0,.slice none 0 0,.map none]:Array Value).size:=tZ;have X0:=hid (Bx.new w 163 #[.slice none 0 0,.slice none 0 0,.slice none 0 0,.slice none 0 0,.map none]);have z:=hid ((kql w.heap.size w).alloc (kqd _) (.cells #[.slice none 0 0,.slice none 0 0,.slice none 0 0,.slice none 0 0,.map none] 163));cases ht:tyN ws with
 | none =>
  rw[ht] at D Jd;rw[Jd] at D;have HV:=hid (oK (.inl ht));simp only[kkk,kjy,kzm,if_false] at D;clear Jd ht hs hb U ho Kc Ka Ks Kg hc;go_enter func94,ntmps94;go_wp2_with fail;refine (D.out _ (HR.out.up z.out z.out.size)).mono ?_;rintro e w1 ⟨⟨a,b0,b1,rfl⟩,V⟩;have o:=hid (z.out.trans (V.mono z.out.size));have X1:=hid (X0.out.up V X0.out.lt);have Je:=o.out.size;have q:=hid ((o.out.alloc Je (.cells #[.int .i64 a,.int .i64 0] 126)).alloc (by simp;omega) (.cells #[.bool b0,.bool b1] 127));have X2:=hid ((X1.out.alloc (.cells #[.int .i64 a,.int .i64 0] 126)).alloc (.cells #[.bool b0,.bool b1] 127));clear V;go_wp2_with (first
   | ((with_reducible refine aq 163 (.tmp 2) _ ?_);refine ak rfl _ _ _ rfl w.heap.size 163 #[.slice none 0 0,.slice none 0 0,.slice none 0 0,.slice none 0 0,.map none] #[.slice none 0 0,.slice none 0 0,.slice none 0 0,.slice none 0 0,.map none] (by rfl) (by rfl) X2.out rfl Z (by simp[Value.oneCell']) ?_;intro w9 d g;have m:=hid d;have j:=hid g;clear d g))
  exact kqr (v:=.tuple #[.agg #[.slice none 0 0,.slice none 0 0,.slice none 0 0,.slice none 0 0,.map none],.int .i64 1]) (fh results94 _ m.out rfl rfl rfl) rfl ⟨⟨1,_,rfl,by omega,λ_=>⟨HV.out,rfl⟩,λh=>by omega⟩,j.out.below q.out (kqd _)⟩
 | some t =>
  have Mb:=uE ht;rw[ht] at D Jd;rw[Jd] at D;simp only[kq9,kkd,if_true] at D;have Ln:=hid (λW (U:RdW W W.heap.size A ws)=>Dz A ws c ws.length t W rfl hs Mb U ho);unfold Hu at Ln;have Mt:=hid (λl J=>nm (ws:=ws) (t:=t) (l:=l) ht J);have Kr:=hid (λh=>oK (ws:=ws) (.inr h));have Jr:Hid ((fe ws 16=false\/fe ws 24=false\/gK ws t=false\/slsOk ws=false\/xe ws=false)->lay ws=false):=hid λh=>by
   cases hq:lay ws with
   | false=>rfl
   | true =>
    cases J:blocks ws 128 with
    | none=>rw[Kr.out J] at hq;cases hq
    | some l =>obtain⟨a1,a2,a3,a4,a5,-⟩:=(Mt.out l J).1 hq;rw[a1,a2,a3,a4,iw J,a5] at h;simp at h
  have Mn:Hid (∀l,blocks ws 128=some l->∀k (hk:k<l.length),∃ka:Nat,l[k].at_=(ka:Int)/\ka<=2048):=hid λl J k hk=>by
   obtain⟨a,e,a1,a2,a3,a4,-⟩:=b9 _ _ J (by omega) k hk;exact⟨a,by rw[e];rfl,by have:=(aH a4).2.2;omega⟩
  have Ml:=hid (λl (J:blocks ws 128=some l)=>(bG (by omega) _ _ J (by omega) (by omega) (by omega)).1);have Kk:=hid hs;have HT:=hid ht;have Ll:Hid (∀mb W,(Instr.build 163 #[(0,.slice A ws.length c),(4,.map (some mb))]).run prog W=.ok (.agg #[.slice A ws.length c,.slice none 0 0,.slice none 0 0,.slice none 0 0,.map (some mb)]) W):=hid λ_ _=>by kernel_rfl
  have hb2048:ws.length<=2048:=by omega
  clear Jd hs hb U ho ht hc;go_enter func94,ntmps94;go_wp2_with fail;refine (D.out _ (HR.out.up z.out z.out.size)).mono ?_;rintro e w1 ⟨⟨a,b0,b1,rfl⟩,V⟩;have o:=hid (z.out.trans (V.mono z.out.size));have X1:=hid (X0.out.up V X0.out.lt);have Je:=o.out.size;have q:=hid ((o.out.alloc Je (.cells #[.int .i64 a,.int .i64 (t:Int)] 126)).alloc (by simp;omega) (.cells #[.bool b0,.bool b1] 127));have X2:=hid ((X1.out.alloc (.cells #[.int .i64 a,.int .i64 (t:Int)] 126)).alloc (.cells #[.bool b0,.bool b1] 127));have T4:=hid ((Bx.new w1 126 #[.int .i64 a,.int .i64 (t:Int)]).alloc (.cells #[.bool b0,.bool b1] 127));clear V;go_wp2_with fail;obtain⟨f,Lg⟩:∃f,(w1.alloc (.cells #[.int .i64 a,.int .i64 (t:Int)] 126)).alloc (.cells #[.bool b0,.bool b1] 127)=f:=⟨_,rfl⟩;rw[Lg] at q X2 T4 |-;clear Lg X0 X1 z o;have Jl:=q.out.size;refine (Kc.out _ (HR.out.up q.out Jl)).mono ?_;rintro e w2 ⟨rfl,rfl⟩;cases Kj:fe ws 16
  .have HV:=hid (Jr.out (.inl Kj));go_wp2_with (first
    | ((with_reducible refine aq 163 (.tmp 2) _ ?_);refine ak rfl _ _ _ rfl w.heap.size 163 #[.slice none 0 0,.slice none 0 0,.slice none 0 0,.slice none 0 0,.map none] #[.slice none 0 0,.slice none 0 0,.slice none 0 0,.slice none 0 0,.map none] (by rfl) (by rfl) X2.out rfl Z (by simp[Value.oneCell']) ?_;intro w9 d g;have m:=hid d;have j:=hid g;clear d g))
   exact kqr (v:=.tuple #[.agg #[.slice none 0 0,.slice none 0 0,.slice none 0 0,.slice none 0 0,.map none],.int .i64 2]) (fh results94 _ m.out rfl rfl rfl) rfl ⟨⟨2,_,rfl,by omega,λ_=>⟨HV.out,rfl⟩,λh=>by omega⟩,j.out.below q.out (kqd _)⟩
  have Lq:=hid Kj;clear Kj;go_wp2_with fail;refine (Ka.out _ (HR.out.up q.out Jl)).mono ?_;rintro e w2 ⟨rfl,rfl⟩;cases Km:fe ws 24
  .have HV:=hid (Jr.out (.inr (.inl Km)));go_wp2_with (first
    | ((with_reducible refine aq 163 (.tmp 2) _ ?_);refine ak rfl _ _ _ rfl w.heap.size 163 #[.slice none 0 0,.slice none 0 0,.slice none 0 0,.slice none 0 0,.map none] #[.slice none 0 0,.slice none 0 0,.slice none 0 0,.slice none 0 0,.map none] (by rfl) (by rfl) X2.out rfl Z (by simp[Value.oneCell']) ?_;intro w9 d g;have m:=hid d;have j:=hid g;clear d g))
   exact kqr (v:=.tuple #[.agg #[.slice none 0 0,.slice none 0 0,.slice none 0 0,.slice none 0 0,.map none],.int .i64 3]) (fh results94 _ m.out rfl rfl rfl) rfl ⟨⟨3,_,rfl,by omega,λ_=>⟨HV.out,rfl⟩,λh=>by omega⟩,j.out.below q.out (kqd _)⟩
  have Lx:=hid Km;clear Km;have Lz:=Ll.out;have Mv:=@run_makeMap prog;obtain⟨-,t41,-,-,Mj⟩:=T4.out.c2;go_wp2_with fail;have g3:=Bx.new (f.alloc (Obj.map #[] 0)) 163 #[.slice A ws.length c,.slice none 0 0,.slice none 0 0,.slice none 0 0,.map (some f.heap.size)];rw[kqm] at g3;have m3:=(World.ownsMap_made (H:=Unit) f prog 3 (plainElem prog 4)).alloc (.cells #[.slice A ws.length c,.slice none 0 0,.slice none 0 0,.slice none 0 0,.map (some f.heap.size)] 163);have x3:=(X2.out.alloc (Obj.map #[] 0)).alloc (.cells #[.slice A ws.length c,.slice none 0 0,.slice none 0 0,.slice none 0 0,.map (some f.heap.size)] 163);have Ji:=(q.out.alloc Jl (Obj.map #[] 0)).alloc (by simp;omega) (.cells #[.slice A ws.length c,.slice none 0 0,.slice none 0 0,.slice none 0 0,.map (some f.heap.size)] 163);have Ke:((f.alloc (Obj.map #[] 0)).alloc (.cells #[.slice A ws.length c,.slice none 0 0,.slice none 0 0,.slice none 0 0,.map (some f.heap.size)] 163)).heap.size=f.heap.size+1+1:=by simp
  obtain⟨W3,Lm⟩:=xq ((f.alloc (Obj.map #[] 0)).alloc (.cells #[.slice A ws.length c,.slice none 0 0,.slice none 0 0,.slice none 0 0,.map (some f.heap.size)] 163));rw[Lm] at g3 m3 x3 Ji Ke |-;have Lf:=hid Ke;have Lv:w.heap.size<=W3.heap.size:=Ji.size;refine (Ln.out _ (HR.out.up Ji Ji.size)).mono ?_;rintro e w4 ⟨⟨F,tm,I,L,rfl,hT⟩,Jc⟩;have g4:=g3.up Jc g3.lt;have M4:=hid (d7 m3 (Jc.block _ m3.lt));have X4:=hid (x3.up Jc x3.lt);have Kh:=hid (Ji.trans (Jc.mono Lv));have hz4:=Jc.size;have Ku:=x3.lt;have hg4:=g4.lt;obtain⟨q0,q1,q2,q3,q4,qf,-⟩:=g4.c5;have f1:=qf 1;have G4:=hid g4;have u:w.heap.size≠f.heap.size+1:=by have:=X2.out.lt;omega
  have hne7':=u.symm;clear Lm g3 m3 x3 Ji Ke Jc qf g4 X2 q T4 t41 Mj Lz Mv;cases Jf:gK ws t
  .rw[Jf] at hT;simp only[kzm,if_false];have HV:=hid (Jr.out (.inr (.inr (.inl Jf))));have X5:=hid (X4.out.far (p:=⟨f.heap.size+1,1,none⟩) u (.slice F tm I));have Mu:=hid (Kh.out.setCell (p:=⟨f.heap.size+1,1,none⟩) (by dsimp only;omega) (.slice F tm I));clear hT Jf;go_wp2_with (first
    | ((with_reducible refine aq 163 (.tmp 2) _ ?_);refine ak rfl _ _ _ rfl w.heap.size 163 #[.slice none 0 0,.slice none 0 0,.slice none 0 0,.slice none 0 0,.map none] #[.slice none 0 0,.slice none 0 0,.slice none 0 0,.slice none 0 0,.map none] (by rfl) (by rfl) X5.out rfl Z (by simp[Value.oneCell']) ?_;intro w9 d g;have m:=hid d;have j:=hid g;clear d g))
   exact kqr (v:=.tuple #[.agg #[.slice none 0 0,.slice none 0 0,.slice none 0 0,.slice none 0 0,.map none],.int .i64 4]) (fh results94 _ m.out rfl rfl rfl) rfl ⟨⟨4,_,rfl,by omega,λ_=>⟨HV.out,rfl⟩,λh=>by omega⟩,j.out.below Mu.out (kqd _)⟩
  obtain⟨rfl,Jp,Lh⟩:=hT Jf;simp only[if_true];have Ls:=hid Jf;have Lr:=hid Lh;have K:f.heap.size+1<W3.heap.size:=by have:=Lf.out;omega
  have OT5:=hid (show ub (w4.setCell ⟨f.heap.size+1,1,none⟩ (.slice F L.length I)) W3.heap.size (.slice F L.length I) L from ⟨au Jp.1 (bK Jp.1 K).symm _,λy hy=>au (Jp.2 y hy) (bK (Jp.2 y hy) K).symm _⟩);have X5:=hid (X4.out.far (p:=⟨f.heap.size+1,1,none⟩) u (.slice F L.length I));have G5:=hid (G4.out.set_ 1 (.slice F L.length I));have M5:=hid (M4.out.setCell (a:=⟨f.heap.size+1,1,none⟩) (by simp) (.slice F L.length I));have Jg:=Kh.out.setCell (p:=⟨f.heap.size+1,1,none⟩) (by dsimp only;omega) (.slice F L.length I);clear hT Jf Jp Lh;go_wp2_with fail;obtain⟨W5,Kp⟩:∃W5,w4.setCell ⟨f.heap.size+1,1,none⟩ (.slice F L.length I)=W5:=⟨_,rfl⟩;have Mc:W5.heap.size=w4.heap.size:=by rw[<-Kp];simp
  rw[Kp] at OT5 X5 G5 M5 Jg |-;refine (Ks.out _ (HR.out.up Jg Jg.size)).mono ?_;rintro e w6 ⟨hh,R⟩;have Ky:=Jg.trans (R.mono Jg.size);have g6:=G5.out.up R G5.out.lt;have X6:=hid (X5.out.up R X5.out.lt);have M6:=hid (d7 M5.out (R.block _ M5.out.lt));have OT6:=hid (show ub w6 W3.heap.size (.slice F L.length I) L from ⟨ai OT5.out.1 R (kqd _),λy hy=>ai (OT5.out.2 y hy) R (kqd _)⟩);have hz6:=R.size;have hx6:=X6.out.lt;obtain⟨q0',q1',q2',q3',q4',qf',hg6⟩:=g6.c5;have f2:=qf' 2;have G6:=hid g6;have Jm:=hid Ky;have hgz:f.heap.size+1<W5.heap.size:=G5.out.lt;have h35:W3.heap.size<=W5.heap.size:=by omega
  have r:dA ws=if slsOk ws=true then 0 else 50:=by unfold dA;rw[if_pos Kk.out]
  clear Kp Mc Jg R Ky g6 qf' q0 q1 q2 q3 q4 f1 X4 G4 M4 Kh X5 G5 M5 OT5;cases Jh:slsOk ws
  .rw[Jh] at r;simp only[kzm,if_false] at r;obtain rfl:=hh.2 (by rw[r];decide);have HV:=hid (Jr.out (.inr (.inr (.inr (.inl Jh)))));rw[r];have X7:=hid (X6.out.far (p:=⟨f.heap.size+1,2,none⟩) u (.slice none 0 0));have Kf:=hid (Jm.out.setCell (p:=⟨f.heap.size+1,2,none⟩) (by dsimp only;omega) (.slice none 0 0));clear Jh r hh;go_wp2_with (first
    | ((with_reducible refine aq 163 (.tmp 2) _ ?_);refine ak rfl _ _ _ rfl w.heap.size 163 #[.slice none 0 0,.slice none 0 0,.slice none 0 0,.slice none 0 0,.map none] #[.slice none 0 0,.slice none 0 0,.slice none 0 0,.slice none 0 0,.map none] (by rfl) (by rfl) X7.out rfl Z (by simp[Value.oneCell']) ?_;intro w9 d g;have m:=hid d;have j:=hid g;clear d g))
   exact kqr (v:=.tuple #[.agg #[.slice none 0 0,.slice none 0 0,.slice none 0 0,.slice none 0 0,.map none],.int .i64 5]) (fh results94 _ m.out rfl rfl rfl) rfl ⟨⟨5,_,rfl,by omega,λ_=>⟨HV.out,rfl⟩,λh=>by omega⟩,j.out.below Kf.out (kqd _)⟩
  rw[Jh] at r;simp only[if_true] at r;obtain⟨T,rfl,Mi,Lk⟩:=hh.1 r;rw[r];have Lu:=hid Jh;have Kz:T≠f.heap.size+1:=by omega
  have S7:=hid (Lk.far (p:=⟨f.heap.size+1,2,none⟩) Kz (.slice (some ⟨T,0,none⟩) 16 16));have X7:=hid (X6.out.far (p:=⟨f.heap.size+1,2,none⟩) u (.slice (some ⟨T,0,none⟩) 16 16));have G7:=hid (G6.out.set_ 2 (.slice (some ⟨T,0,none⟩) 16 16));have M7:=hid (M6.out.setCell (a:=⟨f.heap.size+1,2,none⟩) (by simp) (.slice (some ⟨T,0,none⟩) 16 16));have OT7:=hid (show ub (w6.setCell ⟨f.heap.size+1,2,none⟩ (.slice (some ⟨T,0,none⟩) 16 16)) W3.heap.size (.slice F L.length I) L from ⟨au OT6.out.1 (bK OT6.out.1 K).symm _,λy hy=>au (OT6.out.2 y hy) (bK (OT6.out.2 y hy) K).symm _⟩);have Eq:=Jm.out.setCell (p:=⟨f.heap.size+1,2,none⟩) (by dsimp only;omega) (.slice (some ⟨T,0,none⟩) 16 16);clear Jh r hh Lk;go_wp2_with fail;obtain⟨W7,Jv⟩:∃W7,w6.setCell ⟨f.heap.size+1,2,none⟩ (.slice (some ⟨T,0,none⟩) 16 16)=W7:=⟨_,rfl⟩;have Jy:W7.heap.size=w6.heap.size:=by rw[<-Jv];simp
  rw[Jv] at OT7 X7 G7 M7 S7 Eq |-;refine (Kg.out _ (HR.out.up Eq Eq.size)).mono ?_;rintro e w8 ⟨⟨AW,cW,rfl,E⟩,B⟩;have Kt:=hid (Eq.trans (B.mono Eq.size));have X8:=hid (X7.out.up B X7.out.lt);have hgl:T<W7.heap.size:=S7.out.lt;have Lt:W5.heap.size<=W7.heap.size:=by omega
  cases Q:xe ws
  .have HV:=hid (Jr.out (.inr (.inr (.inr (.inr Q)))));have he:kB ws=50:=by unfold kB;rw[if_pos Kk.out,Q];rfl
   have ho:l8 ws=[]:=by unfold l8;rw[if_neg (by rw[he];decide)]
   rw[he,ho];clear Q he ho E Eq B Jv Jy q0' q1' q2' q3' q4' f2;go_wp2_with (first
    | ((with_reducible refine aq 163 (.tmp 2) _ ?_);refine ak rfl _ _ _ rfl w.heap.size 163 #[.slice none 0 0,.slice none 0 0,.slice none 0 0,.slice none 0 0,.map none] #[.slice none 0 0,.slice none 0 0,.slice none 0 0,.slice none 0 0,.map none] (by rfl) (by rfl) X8.out rfl Z (by simp[Value.oneCell']) ?_;intro w9 d g;have m:=hid d;have j:=hid g;clear d g))
   exact kqr (v:=.tuple #[.agg #[.slice none 0 0,.slice none 0 0,.slice none 0 0,.slice none 0 0,.map none],.int .i64 6]) (fh results94 _ m.out rfl rfl rfl) rfl ⟨⟨6,_,rfl,by omega,λ_=>⟨HV.out,rfl⟩,λh=>by omega⟩,j.out.below Kt.out (kqd _)⟩
  have he:kB ws=0:=by unfold kB;rw[if_pos Kk.out,Q];rfl
  obtain⟨l,J⟩:∃l,blocks ws 128=some l:=by
   cases J:blocks ws 128 with
   | none=>rw[nb J] at Q;cases Q
   | some l=>exact⟨l,rfl⟩
  have ho:l8 ws=l:=by unfold l8;rw[if_pos he,J];rfl
  have Kb:jX l=true:=by rw[<-iw J];exact Q
  rw[ho] at E;rw[he,ho];have hl24:l.length<=1024:=by have:=Ml.out l J;omega
  have HL:=hid J;have Mf:=hid Kb;have P8:=hid (show PtS w8 w.heap.size W3.heap.size W5.heap.size T ws F AW I cW L l from ⟨X8.out,⟨ai OT7.out.1 B (kqd _),λy hy=>ai (OT7.out.2 y hy) B (kqd _)⟩,S7.out.up B S7.out.lt,ao E Lt⟩);have Ms:=hid P8.out.bk;have G8:=hid (G7.out.up B G7.out.lt);have M8:=hid (d7 M7.out (B.block _ M7.out.lt));have La:=G8.out.lt;have Lc:=M8.out.lt;have Mg:=Kt.out.size;have Mm:=hid (Mn.out l HL.out);clear Q he ho J Kb E Eq B Jv Jy q0' q1' q2' q3' q4' f2 OT6 OT7 X6 X7 X8 G6 G7 M6 M7 S7 Jm;obtain⟨i2,hi,Lb,Je,Jl⟩:=kzv kz;have HJ:=hid hi;have Mr:=hid Lb;have Md:=hid Je;have Ly:=hid Jl;clear hi Lb Je Jl;go_wp2_with fail;go_loopw [61] (λi wr=>∃(k:Nat) (OB:Option Addr) (oc:Nat),k<=l.length/\i=.int .i64 k/\Hid (Bx wr (f.heap.size+1) 163 #[.slice A ws.length c,.slice F L.length I,.slice (some ⟨T,0,none⟩) 16 16,.slice OB (aI (l.take k)).length oc,.map (some f.heap.size)])/\Hid (wr.ownsRow w8.heap.size 55 6 (.slice OB (aI (l.take k)).length oc) (aI (l.take k)).length ((aI (l.take k)).flatMap Bk.cells))/\Hid (wr.ownsMap prog 3 (plainElem prog 4) f.heap.size (aI (l.take k)).length (fg ((aI l).map Bk.at_) (aI (l.take k)).length))/\Hid (PtS wr w.heap.size W3.heap.size W5.heap.size T ws F AW I cW L l)/\w8.heap.size<=wr.heap.size/\Hid (Below w.heap.size w wr)) (λi _=>l.length-(intOf i).toNat)
  case atStart=>exact⟨0,none,0,kqy _,rfl,G8,hid (kq8 _ _ _ _),M8,P8,kqd _,Kt⟩
  obtain⟨k,OB,oc,hk,rfl,G,ON,M,P,Le,HB⟩:=hrel;have hz:=HB.out.size;by_cases Js:k<l.length
  .obtain ⟨b,off,rfl,hbb,p0,p1,p2,p3,p4,p5⟩:=RdB.at_ (show RdB wr wr.heap.size AW l from Rd.of_own P.out.b) Js;have Y:=hid (qF Js);have Jo:=hid (GH Js);have Lo:(aI (l.take k)).length<=k:=by unfold aI;have:=kjk (λb:Bk=>b.kind==1) (l.take k);rw[kq3] at this;omega
   obtain⟨x,hx⟩:=xq (l[k]);rw[hx] at p0 p1 p2 p3 p4 p5 Y Jo;obtain⟨C,xs,xk,S,N,O⟩:=x;dsimp only at p0 p1 p2 p3 p4 p5 Y Jo;obtain⟨LK,Kw⟩:=xq (aI (l.take k));rw[Kw] at G ON M Y Jo Lo;have hki:(k:Int)<(l.length:Int):=by omega
   have hk0:(0:Int)<=(k:Int):=by omega
   obtain⟨ka,Jt,hka2⟩:=Mm.out k Js;rw[hx] at Jt;dsimp only at Jt;clear hx Kw;by_cases Jk:xk=1
   .have Ja:Hid (aI (l.take (k+1))=LK++[⟨C,xs,xk,S,N,O⟩]):=hid (by rw[Y.out,if_pos Jk]);have HX:=hid (Jo.out Jk);have Mq:Hid (fg ((aI l).map Bk.at_) (LK.length+1)=(fg ((aI l).map Bk.at_) LK.length).put (.int .i64 C) (.lit (.bool true))):=hid (by simp only[fg,kxl,HX.out];rfl);have Li:(Lit.int .i64 C).wf=true:=by simp[Lit.wf,IntKind.min,IntKind.max,IntKind.signed,IntKind.bits];omega
    have HK:=hid (keyOf_int_mk (P:=prog) underlying3 Li);subst Jk;obtain⟨g0,g1,g2,g3,g4,gf,-⟩:=G.out.c5;have gf3:=gf 3;have hgw:=G.out.lt;have Jq:=hid (ON.out.alloc (.cells #[.int .i64 C,.int .i64 xs,.int .i64 1,.int .i64 S,.bool N,.int .u64 (O:Int)] 55));have Ki:=hid (G.out.alloc (.cells #[.int .i64 C,.int .i64 xs,.int .i64 1,.int .i64 S,.bool N,.int .u64 (O:Int)] 55));have Kn:=hid (M.out.alloc (.cells #[.int .i64 C,.int .i64 xs,.int .i64 1,.int .i64 S,.bool N,.int .u64 (O:Int)] 55));have Ko:=hid (P.out.alloc (.cells #[.int .i64 C,.int .i64 xs,.int .i64 1,.int .i64 S,.bool N,.int .u64 (O:Int)] 55));have o:=hid (HB.out.alloc hz (.cells #[.int .i64 C,.int .i64 xs,.int .i64 1,.int .i64 S,.bool N,.int .u64 (O:Int)] 55));have BX1:=hid (Bx.new wr 55 #[.int .i64 C,.int .i64 xs,.int .i64 1,.int .i64 S,.bool N,.int .u64 (O:Int)]);have Kd:w8.heap.size<=(wr.alloc (.cells #[.int .i64 C,.int .i64 xs,.int .i64 1,.int .i64 S,.bool N,.int .u64 (O:Int)] 55)).heap.size:=cB Le;have Jz:=hid Kd;have Kr:=hid (show some wr.heap.size≠(Value.slice OB LK.length oc).ownBlock from λh=>by have:=(ON.out.lt _ h.symm).2;omega);have hmw:=M.out.lt
    have Jw:=cC (wr.alloc (.cells #[.int .i64 C,.int .i64 xs,.int .i64 1,.int .i64 S,.bool N,.int .u64 (O:Int)] 55)) [.int .i64 C,.int .i64 xs,.int .i64 1,.int .i64 S,.bool N,.int .u64 (O:Int)] 55;rw[kqm] at Jw;have Jw:=hid Jw;clear Y Jo Li gf Jt Kd;go_wp2_with (first
     | (at_builtin;refine kzd _ rfl _ _ 48 rfl w8.heap.size 55 i2 _ 6 48 underlying48 HJ.out Mr.out Md.out Ly.out rfl (by decide) _ _ _ rfl (Jq.out.alloc _) ⟨_,0,none⟩ 1 1 [.int .i64 C,.int .i64 xs,.int .i64 1,.int .i64 S,.bool N,.int .u64 (O:Int)] rfl rfl Jw.out (by simp[Value.oneCell']) (by unfold maxLen;omega) (by omega) (cB Jz.out) ?_;intro v1 w6 X Jb _;obtain⟨OV,oc2,rfl⟩:=aJ X;have Jm:=hid (aC o.out o.out.size (ao Jq.out Mg) Jb);have Kq:=hid X;have Kx:=hid ((Ki.out.alloc _).grown Jb (bK ON.out La));have Lp:=hid ((Kn.out.alloc _).kept Jb (bK ON.out Lc));have Me:=hid ((Ko.out.alloc _).late Ms.out Jq.out Jb);have BX6:=hid ((BX1.out.alloc _).grown Jb Kr.out);have Mh:=kz5 (cB Jz.out) Jb.size;obtain⟨d0,d1,d2,d3,d4,df,-⟩:=Kx.out.c5;obtain⟨x0,-,-,-,-,-,-,xlt⟩:=BX6.out.c6;have df3:=df 3;clear X Jb df)
     | (at_mapUpdate;refine wpList_mapUpdate_own _ rfl _ _ _ 161 rfl 3 4 mO underlying161 _ f.heap.size _ _ rfl (Lp.out.setCell (a:=⟨f.heap.size+1,3,none⟩) (by simp) _) (by unfold maxLen;omega) _ _ _ rfl rfl HK.out (.lit (.bool true)) [] (plainElem_bool underlying4 true) ?_;intro w7 Kl Jj))
    have Kf:=hid ((Jm.out.setCell (p:=⟨f.heap.size+1,3,none⟩) (by dsimp only;omega) (.slice OV (LK.length+1) oc2)).grown Jj (by rw[kxb];exact Jm.out.size) (λk hk=>by injection hk with hk;omega));have Mw:=hid ((Kx.out.set_ 3 (.slice OV (LK.length+1) oc2)).grown Jj (by simp));have n7:=(bK Kq.out La).symm;have Ma:=hid (bu (au Kq.out n7 (.slice OV (LK.length+1) oc2)) Jj (.inr (bK Kq.out Lc).symm));have Ld:=fW P.out.x M.out;have Kv:=fW P.out.s M.out;have Lj:f.heap.size<W3.heap.size:=by have:=Lf.out;omega
    have Mp:=hid ((Me.out.set_ (p:=⟨f.heap.size+1,3,none⟩) u K (by omega) Mi (.slice OV (LK.length+1) oc2)).grown Jj Ld Kv (.inr (bK P.out.t.1 Lj).symm) (λy hy=>.inr (bK (P.out.t.2 y hy) Lj).symm) (.inr (bK P.out.b (show f.heap.size<W5.heap.size by omega)).symm));have Jy:w8.heap.size<=w7.heap.size:=kz5 Mh (by have:=Jj.size;rw[kxb] at this;exact this);clear Jj Ld Kv n7;go_wp2;go_roundw
    case rel =>
     refine⟨k+1,OV,oc2,by omega,by go_num,?_,?_,?_,Mp,Jy,Kf⟩
     .rw[Ja.out,kqu];exact Mw
     .rw[Ja.out,kqu,kxi];exact Ma
     rw[Ja.out,kqu];refine hid ?_;show w7.ownsMap _ _ _ _ (LK.length+1) (fg _ (LK.length+1));rw[Mq.out];exact Kl
    case measure=>simp[intOf];omega
   have Ja:Hid (aI (l.take (k+1))=LK):=hid (by rw[Y.out,if_neg Jk,kzs]);have e1:(xk==1)=false:=by rw[kqi];exact Jk
   have Jq:=hid (ON.out.alloc (.cells #[.int .i64 C,.int .i64 xs,.int .i64 xk,.int .i64 S,.bool N,.int .u64 (O:Int)] 55));have Ki:=hid (G.out.alloc (.cells #[.int .i64 C,.int .i64 xs,.int .i64 xk,.int .i64 S,.bool N,.int .u64 (O:Int)] 55));have Kn:=hid (M.out.alloc (.cells #[.int .i64 C,.int .i64 xs,.int .i64 xk,.int .i64 S,.bool N,.int .u64 (O:Int)] 55));have Ko:=hid (P.out.alloc (.cells #[.int .i64 C,.int .i64 xs,.int .i64 xk,.int .i64 S,.bool N,.int .u64 (O:Int)] 55));have o:=hid (HB.out.alloc hz (.cells #[.int .i64 C,.int .i64 xs,.int .i64 xk,.int .i64 S,.bool N,.int .u64 (O:Int)] 55));have Mo:=hid (show w8.heap.size<=(wr.alloc (.cells #[.int .i64 C,.int .i64 xs,.int .i64 xk,.int .i64 S,.bool N,.int .u64 (O:Int)] 55)).heap.size from cB Le);subst Jt;clear Y Jo Jk;go_wp2;go_roundw
   case rel=>exact⟨k+1,OB,oc,by omega,by go_num,by rw[Ja.out];exact Ki,by rw[Ja.out];exact Jq,by rw[Ja.out];exact Kn,Ko,Mo.out,o⟩
   case measure=>simp[intOf];omega
  obtain rfl:k=l.length:=by omega
  rw[kzn] at G ON M;have HG:=hid G.out;obtain⟨g0,g1,g2,g3,g4,-,-⟩:=G.out.c5;go_wp2_with (first
   | ((with_reducible refine aM 163 (.tmp 7) ?_);refine kxf rfl _ _ rfl (f.heap.size+1) (by rfl) 163 _ (0,0) _ HG.out underlying163 (by rfl) tZ ?_)
   | ((with_reducible refine aq 163 (.tmp 2) _ ?_);refine ak rfl _ _ _ rfl w.heap.size 163 #[.slice none 0 0,.slice none 0 0,.slice none 0 0,.slice none 0 0,.map none] #[.slice A ws.length c,.slice F L.length I,.slice (some ⟨T,0,none⟩) 16 16,.slice OB (aI l).length oc,.map (some f.heap.size)] (by rfl) (by rfl) P.out.x rfl Z (by simp[Value.oneCell']) ?_;intro w9 d g;have m:=hid d;have j:=hid g;clear d g))
  refine kqr (v:=.tuple #[.agg #[.slice A ws.length c,.slice F L.length I,.slice (some ⟨T,0,none⟩) 16 16,.slice OB (aI l).length oc,.map (some f.heap.size)],.int .i64 0]) (fh results94 _ m.out rfl rfl rfl) rfl ⟨⟨0,_,rfl,kvg _,λh=>absurd rfl h,λ_=>⟨t,l,?_⟩⟩,j.out.below HB.out (kqd _)⟩;have d:=j.out.2.2 w.heap.size (kqd _);have Ju:wr.grownBy w9 (some w.heap.size):=⟨d.os,d.tape,d.output,by rw[j.out.1];exact kqd _,λk hk Lw=>j.out.2.1 k (λe=>Lw (by rw[e]))⟩;have hS:=j.out.bx P.out.s (show T≠w.heap.size by omega);refine⟨HT.out,HL.out,Lq.out,Lx.out,Ls.out,Lu.out,Mf.out,F,some ⟨T,0,none⟩,OB,I,16,oc,f.heap.size,L,rfl,?_,Lr.out,Rd.of_box hS hS.lt,?_,?_⟩
  .exact RdL.of_own (H:=W3.heap.size) ⟨bu P.out.t.1 Ju (.inr (bK P.out.t.1 Ku).symm),λy hy=>bu (P.out.t.2 y hy) Ju (.inr (bK (P.out.t.2 y hy) Ku).symm)⟩ rfl
  .exact Rd.of_own (bu ON.out Ju (.inr (bK ON.out (show w.heap.size<w8.heap.size by omega)).symm))
  exact M.out.kept Ju (fW P.out.x M.out).symm
theorem BT{t:Nat}{L:List Ty}(hty:gK ws t=true)(hL:L.map Ty.l=gn ws t 8):∀x∈L,cY x.l=0/\kSz x.l=aY x.l.length/\x.l.length<=8:=by
 intro x k;have d:x.l∈gn ws t 8:=by rw[<-hL];exact kju k
 unfold gn at d;obtain⟨i,g,e⟩:=kzw.1 d;rw[kzh] at g;have a:=(js ws t).1 hty i (by omega);unfold Ct at a;rw[if_pos (by omega)] at a;have f:x.l=dl (wd ws (96+2*i)):=by rw[<-e];unfold a8;rw[if_pos a]
 obtain⟨j,h,-,-⟩:=rk a;have b:x.l.length<=8:=by rw[f,eY];exact j
 have c:cY x.l=0:=ju b (by rw[f];exact h);exact⟨c,by unfold kSz;rw[if_pos c],b⟩
section
variable {A TA SA OA:Option Addr} {ws:List Nat} {L:List Ty} {l:List Bk} {c n tc tn sc sn oc mb:Nat} {w:World}
theorem Dh(hl:blocks ws 128=some l)(hm:(aI l).length<=1000000)(hO:RdB w w.heap.size OA (aI l)):
 Calls prog 100 #[.agg #[.slice A n c,.slice TA tn tc,.slice SA sn sc,.slice OA (aI l).length oc,.map (some mb)],.func (.func 95) #[.agg #[.slice A n c,.slice TA tn tc,.slice SA sn sc,.slice OA (aI l).length oc,.map (some mb)]] #[]] w λe w'=>e=.returned (.bool ((aI l).all λb=>!wrK ws T (aI l) 7 b))/\Below w.heap.size w w':=by
 refine jn 95 A TA SA OA (aI l) _ c n tc tn sc sn oc (aI l).length mb w rfl hm hO (λ_ _=>by kernel_rfl) (λk h W hb=>?_);obtain⟨a,z,g,d,f,e,-⟩:=gm hl (kqp h);rw[e,l6];have i:wrB ws T (aI l) a z g f d 7=(f||decide (0<d)):=by simp[wrB]
 rw[i];exact D7 A TA SA OA c n tc tn sc sn oc (aI l).length mb a z g d 1 f W
theorem Cj(hl:blocks ws 128=some l)(hm:(aI l).length<=1000000)(ht:L.length=tn)(hk:∀x∈L,cY x.l=0/\kSz x.l=aY x.l.length/\x.l.length<=8)(hO:RdB w w.heap.size OA (aI l))(hL:RdL w w.heap.size TA L):
 Calls prog 100 #[.agg #[.slice A n c,.slice TA tn tc,.slice SA sn sc,.slice OA (aI l).length oc,.map (some mb)],.func (.func 96) #[.agg #[.slice A n c,.slice TA tn tc,.slice SA sn sc,.slice OA (aI l).length oc,.map (some mb)]] #[]] w λe w'=>e=.returned (.bool ((aI l).all λb=>!wrK ws (L.map Ty.l) (aI l) 8 b))/\Below w.heap.size w w':=by
 refine jn 96 A TA SA OA (aI l) _ c n tc tn sc sn oc (aI l).length mb w rfl hm hO (λ_ _=>by kernel_rfl) (λk h W f=>?_);obtain⟨a,z,d,g,i,e,-⟩:=gm hl (kqp h);rw[e,l6];have j:(!wrB ws (L.map Ty.l) (aI l) a z d i g 8)=(decide (d<L.length)&&aY (((L.map Ty.l)[d]?).getD []).length==z):=by unfold wrB;rw[if_neg (by decide),if_pos rfl,kz3];cases decide (d<L.length)<;>simp[bne]
 rw[j];exact yV A TA SA OA L c n tc tn sc sn oc (aI l).length mb a z d g 1 i W ht hk (hL.up f f.size)
theorem pJ{a z ty nx:Nat}{mk:Bool}(hT:L.map Ty.l=T)(h:wrK ws T O 8 ⟨(a:Int),(z:Int),1,(ty:Int),mk,nx⟩=false):∃h:ty<L.length,z=aY L[ty].l.length/\(T[ty]?).getD []=L[ty].l:=by
 rw[l6] at h;unfold wrB at h;rw[if_neg (by decide),if_pos rfl,kzl,kkt,kqn,kqq,<-hT,kz3] at h;have e:(T[ty]?).getD []=(L[ty]'h.1).l:=by rw[<-hT];simp[h.1]
 refine⟨h.1,?_,e⟩;rw[<-e,<-hT];exact h.2.symm
theorem xp(hl:blocks ws 128=some l)(hm:(aI l).length<=1000000)(hn:ws.length=n)(hn2:n<=2048)(ht:L.length=tn)(hk:∀x∈L,cY x.l=0/\kSz x.l=aY x.l.length/\x.l.length<=8)(h8:∀b∈aI l,wrK ws (L.map Ty.l) (aI l) 8 b=false)(hO:RdB w w.heap.size OA (aI l))(hL:RdL w w.heap.size TA L)(hR:RdW w w.heap.size A ws):
 Calls prog 100 #[.agg #[.slice A n c,.slice TA tn tc,.slice SA sn sc,.slice OA (aI l).length oc,.map (some mb)],.func (.func 97) #[.agg #[.slice A n c,.slice TA tn tc,.slice SA sn sc,.slice OA (aI l).length oc,.map (some mb)]] #[]] w λe w'=>e=.returned (.bool ((aI l).all λb=>!wrK ws (L.map Ty.l) (aI l) 9 b))/\Below w.heap.size w w':=by
 refine jn 97 A TA SA OA (aI l) _ c n tc tn sc sn oc (aI l).length mb w rfl hm hO (λ_ _=>by kernel_rfl) (λk h W i=>?_);obtain⟨a,z,g,m,j,e,-,haz,-⟩:=gm hl (kqp h);have d:=h8 _ (kqp h);rw[e] at d |-;obtain⟨f,q,p⟩:=pJ rfl d;rw[l6];have o:wrB ws (L.map Ty.l) (aI l) a z g j m 9=(decide (L[g].l.length+2<z)&&wd ws (a+2+L[g].l.length) != 0):=by unfold wrB;rw[if_neg (by decide),if_neg (by decide),if_pos rfl,p]
 rw[o];exact xE A TA SA OA ws L c n tc tn sc sn oc (aI l).length mb a z g m 1 j W hn hn2 ht f (hk _ (kqp f)).2.2 q (by omega) (hR.up i i.size) (hL.up i i.size)
theorem vz(hl:blocks ws 128=some l)(hm:(aI l).length<=1000000)(hn:ws.length=n)(hn2:n<=2048)(ht:L.length=tn)(ho:∀x∈ws,x<18446744073709551616)(hk:∀x∈L,cY x.l=0/\kSz x.l=aY x.l.length/\x.l.length<=8)(h8:∀b∈aI l,wrK ws (L.map Ty.l) (aI l) 8 b=false)(hO:RdB w w.heap.size OA (aI l))(hL:RdL w w.heap.size TA L)(hR:RdW w w.heap.size A ws):
 Calls prog 100 #[.agg #[.slice A n c,.slice TA tn tc,.slice SA sn sc,.slice OA (aI l).length oc,.map (some mb)],.func (.func 98) #[.agg #[.slice A n c,.slice TA tn tc,.slice SA sn sc,.slice OA (aI l).length oc,.map (some mb)]] #[]] w λe w'=>e=.returned (.bool ((aI l).all λb=>!wrK ws (L.map Ty.l) (aI l) 10 b))/\Below w.heap.size w w':=by
 refine jn 98 A TA SA OA (aI l) _ c n tc tn sc sn oc (aI l).length mb w rfl hm hO (λ_ _=>by kernel_rfl) (λk h W j=>?_);obtain⟨a,z,g,o,m,e,-,haz,-⟩:=gm hl (kqp h);have d:=h8 _ (kqp h);rw[e] at d |-;obtain⟨f,r,q⟩:=pJ rfl d;rw[l6];have p:wrB ws (L.map Ty.l) (aI l) a z g m o 10=((List.range L[g].l.length).any λi=>wrF ws L[g].l (aI l) a 10 i):=by unfold wrB;rw[if_neg (by decide),if_neg (by decide),if_neg (by decide),q]
 rw[p];exact vw A TA SA OA ws L (aI l) c n tc tn sc sn oc (aI l).length mb a z g o 1 m W hn hn2 ht f (hk _ (kqp f)).2.2 r (by omega) (hR.up j j.size) (hL.up j j.size) ho
theorem CN(hl:blocks ws 128=some l)(hm:(aI l).length<=1000000)(hn:ws.length=n)(hn2:n<=2048)(ht:L.length=tn)(ho:∀x∈ws,x<18446744073709551616)(hk:∀x∈L,cY x.l=0/\kSz x.l=aY x.l.length/\x.l.length<=8)(h8:∀b∈aI l,wrK ws (L.map Ty.l) (aI l) 8 b=false)(hO:RdB w w.heap.size OA (aI l))(hL:RdL w w.heap.size TA L)(hR:RdW w w.heap.size A ws)(hM:w.ownsMap prog 3 (plainElem prog 4) mb (aI l).length (fg ((aI l).map Bk.at_) (aI l).length)):
 Calls prog 100 #[.agg #[.slice A n c,.slice TA tn tc,.slice SA sn sc,.slice OA (aI l).length oc,.map (some mb)],.func (.func 99) #[.agg #[.slice A n c,.slice TA tn tc,.slice SA sn sc,.slice OA (aI l).length oc,.map (some mb)]] #[]] w λe w'=>e=.returned (.bool ((aI l).all λb=>!wrK ws (L.map Ty.l) (aI l) 11 b))/\Below w.heap.size w w':=by
 refine jn 99 A TA SA OA (aI l) _ c n tc tn sc sn oc (aI l).length mb w rfl hm hO (λ_ _=>by kernel_rfl) (λk h W d=>?_);obtain⟨a,z,j,o,m,e,-,haz,-⟩:=gm hl (kqp h);have f:=h8 _ (kqp h);rw[e] at f |-;obtain⟨g,t,s⟩:=pJ rfl f;rw[l6];have r:wrB ws (L.map Ty.l) (aI l) a z j m o 11=((List.range L[j].l.length).any λi=>wrF ws L[j].l (aI l) a 11 i):=by unfold wrB;rw[if_neg (by decide),if_neg (by decide),if_neg (by decide),s]
 rw[r];refine EO A TA SA OA ws L (aI l) c n tc tn sc sn oc (aI l).length mb a z j o 1 m W hn hn2 ht g (hk _ (kqp g)).2.2 t (by omega) (hR.up d d.size) (hL.up d d.size) ho (λb d=>?_) (d7 hM (d.block _ hM.lt));obtain⟨q,z',ty',nx',mk',p,-,haz',hz2,-⟩:=gm hl d;rw[p];show (q:Int)<n;omega
end
def B7 (ws:List Nat) (e:Ending):Prop:=∃r:Int,e=.returned (.tuple #[.int .i64 r,.int .i64 (kq ws.length)])/\0<=r/\(aj (ws.length:Int)=true->(r=0↔lay ws=true))
def Iu (ws:List Nat) (T:List (List Nat)) (O:List Bk) (k:Nat):Prop:=∀r,7<=r->r<7+k->∀b∈O,wrK ws T O r b=false
theorem zk(h:Iu ws T O k)(h1:(O.all λb=>!wrK ws T O (7+k) b)=true):Iu ws T O (k+1):=λr d hr b a=>by
 rcases kq6 r (7+k) with c|c
 .exact h r d c b a
 .have:r=7+k:=by omega
  subst this;have:=kzu.1 h1 b a
  simpa using this
theorem Dg(hk:k<5)(h1:(O.all λb=>!wrK ws T O (7+k) b)=false):¬ ∀r,7<=r->r<12->∀b∈O,wrK ws T O r b=false:=λh=>by rw[kzu.2 λb a=>by rw[h (7+k) (by omega) (by omega) b a];rfl] at h1;cases h1
def mM (O:List Bk) (S:List Sl) (k:Nat):Prop:=∀i (h:i<S.length),i<k->jO O S[i]=true
theorem qR{S:List Sl}(hk:k<S.length)(h:mM O S k)(h1:jO O S[k]=true):mM O S (k+1):=λi b hlt=>by
 rcases kq6 i k with a|a
 .exact h i b a
 .have:i=k:=by omega
  subst this;exact h1
theorem xB(A:Option Addr)(ws:List Nat)(c n:Nat)(w:World)(hn:ws.length=n)(hm:n<=9223372036854775807)(hc:n<=c)(hr:RdW w w.heap.size A ws)(ho:∀x∈ws,x<18446744073709551616):
 Calls prog 51 #[.slice A n c] w λe w'=>B7 ws e/\Below w.heap.size w w':=by
 subst hn;have Ja:=hid (aE A ws.length c w hm);cases hs:aj (ws.length:Int)
 .have HE:=hid (bD hs);have J:Hid (B7 ws (.returned (.tuple #[.int .i64 0,.int .i64 8]))):=hid ⟨0,by rw[HE.out],kvg _,λh=>by rw[hs] at h;cases h⟩;rw[HE.out] at Ja;clear hs hr ho hm hc;go_enter func51,ntmps51;go_wp2_with fail;refine Ja.out.mono ?_;rintro e w1 ⟨rfl,rfl⟩;go_wp2;go_ret2;exact⟨J.out,kql _ _⟩
 have HE:=hid (aX hs);have N:=(aa _).1 hs;have Ju:=hid (yc A ws c ws.length w rfl hs hc hr ho);have Y:Hid (∀r:Int,0<r->lay ws=false->B7 ws (.returned (.tuple #[.int .i64 r,.int .i64 0]))):=hid λr h h2=>⟨r,by rw[HE.out],by omega,λ_=>⟨λh3=>by omega,λh3=>by rw[h2] at h3;cases h3⟩⟩;have Jo:Hid (lay ws=true->B7 ws (.returned (.tuple #[.int .i64 0,.int .i64 0]))):=hid λh=>⟨0,by rw[HE.out],kvg _,λ_=>⟨λ_=>h,λ_=>rfl⟩⟩;rw[HE.out] at Ja;have HR:=hid hr;have Jt:=hid ho;have hlen:256<=ws.length/\ws.length<=2048:=by omega
 have hi5:(prog.info? 163).map (·.size)=some (#[.slice none 0 0,.slice none 0 0,.slice none 0 0,.slice none 0 0,.map none]:Array Value).size:=tZ;unfold PtRes at Ju;clear hs hr ho hm hc N;go_enter func51,ntmps51;go_wp2_with fail;refine Ja.out.mono ?_;rintro e w1 ⟨rfl,rfl⟩;go_wp2_with fail;refine Ju.out.mono ?_;rintro e K ⟨⟨r,sv,rfl,Kt,Z,I⟩,Jq⟩;have Jg:=hid Jq;have Jb:=Jq.size;clear Jq;by_cases h0:r=0
 .subst h0;obtain⟨t,l,P⟩:=I rfl;have PQ:=hid P;obtain⟨m,a,y,o,z,B,d,L,rfl,hL,Jk,hS,hO,hM⟩:=P.mem;have Jl:=hid (nm P.ty P.bl);have HK:=hid (BT P.tys Jk);have Kg:=hid hL;have Kd:=hid hS;have Ku:=hid hO;have Kv:=hid hM;have Ke:=hid Jk;have Jc:(aI l).length<=1000000:=by have:=(bG (by omega) _ _ P.bl (by omega) (by omega) (by omega)).1;have:=kjk (λb:Bk=>b.kind==1) l;unfold aI;omega
  have V:=hid Jc;have Kp:=hM.lt;clear Z I P hL Jk hS hO hM Jc Kt;have Jp:((K.alloc (.cells #[.slice A ws.length c,.slice m L.length o,.slice a 16 z,.slice y (aI l).length B,.map (some d)] 163)).alloc (.cells #[.func (.func 95) #[.agg #[.slice A ws.length c,.slice m L.length o,.slice a 16 z,.slice y (aI l).length B,.map (some d)]] #[],.func (.func 96) #[.agg #[.slice A ws.length c,.slice m L.length o,.slice a 16 z,.slice y (aI l).length B,.map (some d)]] #[],.func (.func 97) #[.agg #[.slice A ws.length c,.slice m L.length o,.slice a 16 z,.slice y (aI l).length B,.map (some d)]] #[],.func (.func 98) #[.agg #[.slice A ws.length c,.slice m L.length o,.slice a 16 z,.slice y (aI l).length B,.map (some d)]] #[],.func (.func 99) #[.agg #[.slice A ws.length c,.slice m L.length o,.slice a 16 z,.slice y (aI l).length B,.map (some d)]] #[]] 166)).heap.size=K.heap.size+1+1:=by simp
  have b24:=((kql K.heap.size K).alloc (kqd _) (.cells #[.slice A ws.length c,.slice m L.length o,.slice a 16 z,.slice y (aI l).length B,.map (some d)] 163)).alloc (by simp) (.cells #[.func (.func 95) #[.agg #[.slice A ws.length c,.slice m L.length o,.slice a 16 z,.slice y (aI l).length B,.map (some d)]] #[],.func (.func 96) #[.agg #[.slice A ws.length c,.slice m L.length o,.slice a 16 z,.slice y (aI l).length B,.map (some d)]] #[],.func (.func 97) #[.agg #[.slice A ws.length c,.slice m L.length o,.slice a 16 z,.slice y (aI l).length B,.map (some d)]] #[],.func (.func 98) #[.agg #[.slice A ws.length c,.slice m L.length o,.slice a 16 z,.slice y (aI l).length B,.map (some d)]] #[],.func (.func 99) #[.agg #[.slice A ws.length c,.slice m L.length o,.slice a 16 z,.slice y (aI l).length B,.map (some d)]] #[]] 166)
  have BX4:=(Bx.new K 163 #[.slice A ws.length c,.slice m L.length o,.slice a 16 z,.slice y (aI l).length B,.map (some d)]).alloc (.cells #[.func (.func 95) #[.agg #[.slice A ws.length c,.slice m L.length o,.slice a 16 z,.slice y (aI l).length B,.map (some d)]] #[],.func (.func 96) #[.agg #[.slice A ws.length c,.slice m L.length o,.slice a 16 z,.slice y (aI l).length B,.map (some d)]] #[],.func (.func 97) #[.agg #[.slice A ws.length c,.slice m L.length o,.slice a 16 z,.slice y (aI l).length B,.map (some d)]] #[],.func (.func 98) #[.agg #[.slice A ws.length c,.slice m L.length o,.slice a 16 z,.slice y (aI l).length B,.map (some d)]] #[],.func (.func 99) #[.agg #[.slice A ws.length c,.slice m L.length o,.slice a 16 z,.slice y (aI l).length B,.map (some d)]] #[]] 166)
  have BF4:=Bx.new (K.alloc (.cells #[.slice A ws.length c,.slice m L.length o,.slice a 16 z,.slice y (aI l).length B,.map (some d)] 163)) 166 #[.func (.func 95) #[.agg #[.slice A ws.length c,.slice m L.length o,.slice a 16 z,.slice y (aI l).length B,.map (some d)]] #[],.func (.func 96) #[.agg #[.slice A ws.length c,.slice m L.length o,.slice a 16 z,.slice y (aI l).length B,.map (some d)]] #[],.func (.func 97) #[.agg #[.slice A ws.length c,.slice m L.length o,.slice a 16 z,.slice y (aI l).length B,.map (some d)]] #[],.func (.func 98) #[.agg #[.slice A ws.length c,.slice m L.length o,.slice a 16 z,.slice y (aI l).length B,.map (some d)]] #[],.func (.func 99) #[.agg #[.slice A ws.length c,.slice m L.length o,.slice a 16 z,.slice y (aI l).length B,.map (some d)]] #[]];rw[kqm] at BF4;have C:=hid (λW (N:Below K.heap.size K W)=>(And.intro (Ku.out.up N N.size) (And.intro (Kg.out.up N N.size) (And.intro (Kd.out.up N N.size) (d7 Kv.out (N.block _ Kp))))));go_wp2_with fail
  obtain⟨M,Jz⟩:=xq ((K.alloc (.cells #[.slice A ws.length c,.slice m L.length o,.slice a 16 z,.slice y (aI l).length B,.map (some d)] 163)).alloc (.cells #[.func (.func 95) #[.agg #[.slice A ws.length c,.slice m L.length o,.slice a 16 z,.slice y (aI l).length B,.map (some d)]] #[],.func (.func 96) #[.agg #[.slice A ws.length c,.slice m L.length o,.slice a 16 z,.slice y (aI l).length B,.map (some d)]] #[],.func (.func 97) #[.agg #[.slice A ws.length c,.slice m L.length o,.slice a 16 z,.slice y (aI l).length B,.map (some d)]] #[],.func (.func 98) #[.agg #[.slice A ws.length c,.slice m L.length o,.slice a 16 z,.slice y (aI l).length B,.map (some d)]] #[],.func (.func 99) #[.agg #[.slice A ws.length c,.slice m L.length o,.slice a 16 z,.slice y (aI l).length B,.map (some d)]] #[]] 166));rw[Jz] at Jp b24 BX4 BF4 |-;have E:=hid b24;have Q:=hid (Jg.out.trans (b24.mono Jb));have BX:=hid BX4;have BF:=hid BF4;have HS4:=hid Jp
  have Kj:Hid (∀k,k<5->Iu ws (gn ws t 8) (aI l) k->∃f,(#[.func (.func 95) #[.agg #[.slice A ws.length c,.slice m L.length o,.slice a 16 z,.slice y (aI l).length B,.map (some d)]] #[],.func (.func 96) #[.agg #[.slice A ws.length c,.slice m L.length o,.slice a 16 z,.slice y (aI l).length B,.map (some d)]] #[],.func (.func 97) #[.agg #[.slice A ws.length c,.slice m L.length o,.slice a 16 z,.slice y (aI l).length B,.map (some d)]] #[],.func (.func 98) #[.agg #[.slice A ws.length c,.slice m L.length o,.slice a 16 z,.slice y (aI l).length B,.map (some d)]] #[],.func (.func 99) #[.agg #[.slice A ws.length c,.slice m L.length o,.slice a 16 z,.slice y (aI l).length B,.map (some d)]] #[]]:Array Value)[k]? = some f/\∀W,Below M.heap.size M W->Calls prog 100 #[.agg #[.slice A ws.length c,.slice m L.length o,.slice a 16 z,.slice y (aI l).length B,.map (some d)],f] W λe w'=>e=.returned (.bool ((aI l).all λb=>!wrK ws (gn ws t 8) (aI l) (7+k) b))/\Below W.heap.size W w'):=hid λk hk Jw=>by
   have hP:=PQ.out;have F:∀W,Below M.heap.size M W->Below K.heap.size K W:=λW D=>E.out.trans (D.mono E.out.size);rw[<-Ke.out] at Jw |-;have Jf:=λW (D:Below M.heap.size M W)=>HR.out.up (Jg.out.trans ((F W D).mono Jb)) (kz5 Jb (F W D).size);have h8:2<=k->∀b∈aI l,wrK ws (L.map Ty.l) (aI l) 8 b=false:=λh b N=>Jw 8 (by omega) (by omega) b N;rcases (show k=0\/k=1\/k=2\/k=3\/k=4 by omega) with rfl|rfl|rfl|rfl|rfl
   .exact ⟨_,rfl,λW D=>Dh hP.bl V.out (C.out W (F W D)).1⟩
   .exact ⟨_,rfl,λW D=>Cj hP.bl V.out rfl HK.out (C.out W (F W D)).1 (C.out W (F W D)).2.1⟩
   .exact ⟨_,rfl,λW D=>xp hP.bl V.out rfl (by omega) rfl HK.out (h8 (by omega)) (C.out W (F W D)).1 (C.out W (F W D)).2.1 (Jf W D)⟩
   .exact ⟨_,rfl,λW D=>vz hP.bl V.out rfl (by omega) rfl Jt.out HK.out (h8 (by omega)) (C.out W (F W D)).1 (C.out W (F W D)).2.1 (Jf W D)⟩
   exact⟨_,rfl,λW D=>CN hP.bl V.out rfl (by omega) rfl Jt.out HK.out (h8 (by omega)) (C.out W (F W D)).1 (C.out W (F W D)).2.1 (Jf W D) (C.out W (F W D)).2.2.2⟩
  have Ko:Hid (Iu ws (gn ws t 8) (aI l) 0):=hid λr h1 h2=>by omega
  have Ks:=hid (λk h h1=>zk (ws:=ws) (T:=gn ws t 8) (O:=aI l) (k:=k) h h1);have Ki:=hid (λk h h1=>Dg (ws:=ws) (T:=gn ws t 8) (O:=aI l) (k:=k) h h1);have Km:K.heap.size+1<M.heap.size:=by omega
  have Jh:K.heap.size<M.heap.size:=by omega
  clear Jz Jp b24 BX4 BF4;go_loopw [36] (λi wr=>∃k:Nat,k<=5/\i=.int .i64 k/\Hid (Iu ws (gn ws t 8) (aI l) k)/\Below M.heap.size M wr) (λi _=>5-(intOf i).toNat)
  case atStart=>exact⟨0,by omega,rfl,Ko,kql _ _⟩
  obtain⟨k,hk,rfl,HT,G⟩:=hrel;by_cases H:k<5
  .obtain ⟨f,hf,hC⟩:=Kj.out k H HT.out;have hc0:=(G.cell (p:=⟨K.heap.size+1,k,none⟩) Km).trans ((BF.out.cell k).trans hf);have HC:=hid (hC wr G);have Jy:=hid (Ks.out k HT.out);have Kb:=hid (Ki.out k H);obtain⟨q,hq⟩:=xq (((aI l).all λb=>!wrK ws (gn ws t 8) (aI l) (7+k) b));rw[hq] at HC Jy Kb;obtain⟨q0,q1,q2,q3,q4,-,-⟩:=(BX.out.up G Jh).c5;have Eq:=hid G;have hz:=G.size;have hki:(k:Int)<5:=by omega
   have hk0:(0:Int)<=(k:Int):=by omega
   clear hf hC hq G;cases q
   .have J:=hid (Y.out (7+k) (by omega) (by
     cases hq:lay ws with
     | false=>rfl
     | true=>exact absurd (Jl.out.1 hq).2.2.2.2.2.1 (Kb.out rfl)))
    go_wp2_with fail;refine HC.out.mono ?_;rintro e w5 ⟨rfl,R⟩;have Jm:=hid (Q.out.trans ((Eq.out.trans (R.mono hz)).mono Q.out.size));clear R;go_wp2;go_ret2;exact⟨J.out,Jm.out⟩
   have J:=hid (Jy.out rfl);go_wp2_with fail;refine HC.out.mono ?_;rintro e w5 ⟨rfl,R⟩;have Jm:=hid (Eq.out.trans (R.mono hz));clear R;go_wp2;go_roundw
   case rel=>exact⟨k+1,by omega,by go_num,J,Jm.out⟩
   case measure=>simp[intOf];omega
  have Kk:=hid (show Iu ws (gn ws t 8) (aI l) 5 from λr h1 h2 b N=>HT.out r h1 (by omega) b N);have Jd:decide ((k:Int)<5)=false:=by rw[kqh];omega
  have X:decide (k<5)=false:=by rw[kqh];exact H
  obtain⟨-,-,q2,-,-,-,-⟩:=(BX.out.up G Jh).c5;have Eq:=hid G;clear H hk HT G;go_wp2_with fail;have Kh:Hid (mM (aI l) (slL ws) 0):=hid λi h h1=>by omega
  have Kl:=hid (λk hk h h1=>qR (O:=aI l) (S:=slL ws) (k:=k) hk h h1);have Jr:=hid (eZ ws);have Kn:Hid (mM (aI l) (slL ws) 16->lay ws=true):=hid λh=>Jl.out.2 ⟨PQ.out.z1,PQ.out.z2,PQ.out.tys,PQ.out.sls,PQ.out.adj,Kk.out,λs hs=>by
   obtain⟨i,hi,rfl⟩:=kqz hs;exact h i hi (by rw[Jr.out] at hi;exact hi)⟩
  have Kf:Hid (∀k (hk:k<(slL ws).length),jO (aI l) (slL ws)[k]=false->lay ws=false):=hid λk hk h=>by
   cases hq:lay ws with
   | false=>rfl
   | true=>rw[(Jl.out.1 hq).2.2.2.2.2.2 _ (kqp hk)] at h;cases h
  have Kq:Hid (∀k (hk:k<(slL ws).length),∃g v:Nat,(slL ws)[k]=⟨(g:Int),(slL ws)[k].used,(v:Int)⟩/\v<4294967296):=hid λk hk=>by
   rw[mR ws hk];exact⟨_,_,rfl,kz0 _ (by decide)⟩
  clear Jd X q2;go_loopw [51] (λi wr=>∃k:Nat,k<=16/\i=.int .i64 k/\Hid (mM (aI l) (slL ws) k)/\Below M.heap.size M wr) (λi _=>16-(intOf i).toNat)
  case atStart=>exact⟨0,by omega,rfl,Kh,Eq.out⟩
  obtain⟨j,hj,rfl,HT,G⟩:=hrel;by_cases H:j<16
  .have U:j<(slL ws).length:=by rw[Jr.out];exact H
   obtain⟨bS,oS,rfl,hbS,p0,p1,p2⟩:=RdS.at_ (show RdS wr wr.heap.size a (slL ws) from (C.out wr (E.out.trans (G.mono E.out.size))).2.2.1) U;obtain⟨g,v,hx,hv⟩:=Kq.out j U;have Je:=hid (Kl.out j U HT.out);have Js:=hid (Kf.out j U);obtain⟨x,Jv⟩:=xq ((slL ws)[j]);rw[Jv] at p0 p1 p2 hx Je Js;obtain⟨u,hu⟩:=xq x.used;rw[hu] at p1 hx;subst hx;dsimp only at p0 p2;have hjj:(j:Int)<16:=by omega
   have hj0:(0:Int)<=(j:Int):=by omega
   obtain⟨-,-,-,-,q4,-,-⟩:=(BX.out.up G Jh).c5;have hgw:K.heap.size<wr.heap.size:=by have:=G.size;omega
   have hz:=G.size;have Ji:=hid (G.alloc hz (.cells #[.int .i64 (g:Int),.bool u,.int .i64 (v:Int)] 52));have Kr:=hid ((C.out wr (E.out.trans (G.mono E.out.size))).2.2.2.alloc (.cells #[.int .i64 (g:Int),.bool u,.int .i64 (v:Int)] 52));clear Jv hu U G;cases u
   .have J:=hid (Je.out rfl);go_wp2;go_roundw
    case rel=>exact⟨j+1,by omega,by go_num,J,Ji.out⟩
    case measure=>simp[intOf];omega
   have Ka:(Lit.int .i64 (v:Int)).wf=true:=by simp[Lit.wf,IntKind.min,IntKind.max,IntKind.signed,IntKind.bits];omega
   have Kc:=iI Kr.out mO underlying161 underlying4 (ms _) (keyOf_int_mk (P:=prog) underlying3 Ka) (c:=mg (aI l) v) (by rw[nH,uJ]);have Jj:Hid (jO (aI l) ⟨(g:Int),true,(v:Int)⟩=mg (aI l) v):=hid (by unfold jO;simp);obtain⟨q,hq⟩:=xq (mg (aI l) v);rw[hq] at Kc Jj;clear Ka hq hv;cases q
   .have J:=hid (Y.out 12 (by decide) (Js.out Jj.out));go_wp2;go_ret2;exact⟨J.out,Q.out.trans (Ji.out.mono Q.out.size)⟩
   have J:=hid (Je.out Jj.out);go_wp2;go_roundw
   case rel=>exact⟨j+1,by omega,by go_num,J,Ji.out⟩
   case measure=>simp[intOf];omega
  have Jd:decide ((j:Int)<16)=false:=by rw[kqh];omega
  have X:decide (j<16)=false:=by rw[kqh];exact H
  have J:=hid (Jo.out (Kn.out (by have:=HT.out;rwa [show j=16 by omega] at this)));clear H hj HT;go_wp2;go_ret2;exact⟨J.out,Q.out.trans (G.mono Q.out.size)⟩
 obtain⟨hl,rfl⟩:=Z h0;have J:=hid (Y.out r (by omega) hl);have e1:(r != 0)=true:=by rw[kqv];exact h0
 clear Z I;go_wp2;go_ret2;exact⟨J.out,Jg.out.alloc Jb _⟩
theorem x9(A:Option Addr)(ws:List Nat)(c n:Nat)(w:World)(hn:ws.length=n)(hm:n<=9223372036854775807)(hc:n<=c)(hr:RdW w w.heap.size A ws)(ho:∀x∈ws,x<18446744073709551616):
 Calls prog 16 #[.slice A n c] w λe w'=>e=.returned (.int .i64 (cc ws))/\Below w.heap.size w w':=by
 subst hn;have f:=hid (xB A ws c ws.length w rfl hm hc hr ho);unfold B7 at f;clear hr ho hc hm;cases d:aj (ws.length:Int)
 .have g:Hid (cc ws=8):=hid (by unfold cc;rw[d];rfl);rw[bD d] at f;clear d;go_enter func16,ntmps16;go_wp2_with fail;refine f.out.mono ?_;rintro e k ⟨⟨r,rfl,-,-⟩,a⟩;go_wp2;go_ret;exact⟨by rw[g.out];rfl,a⟩
 have g:Hid (cc ws=if lay ws=true then 0 else 50):=hid (by unfold cc;rw[d];rfl);rw[aX d] at f;have m:=hid d;clear d;go_enter func16,ntmps16;go_wp2_with fail;refine f.out.mono ?_;rintro e k ⟨⟨r,rfl,l,i⟩,a⟩;have j:=hid (i m.out);clear i;by_cases b:r=0
 .have h:=hid (j.out.1 b);subst b;go_wp2;go_ret;exact⟨by rw[g.out,h.out];rfl,a⟩
 have h:Hid (lay ws=false):=hid (by
  cases o:lay ws with
  | false=>rfl
  | true=>exact absurd (j.out.2 o) b)
 have d1:decide ((0:Int)<r)=true:=by rw[kqn];omega
 clear b l;go_wp2;go_ret;exact⟨by rw[g.out,h.out];rfl,a⟩
end Go.Proofs.YtpcajamacpbjcaaGreat
