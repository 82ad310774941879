/- Texts laid together: LyE LyF LyG LyH. -/
import Derived.Test.YtpcajamacpbjcaaGreatZKLy1
import Derived.Test.YtpcajamacpbjcaaGreatZKCp2
import Derived.Laws.EntriesVeiled
set_option maxHeartbeats 16000000
set_option maxRecDepth 100000
set_option linter.all false
namespace Go.Proofs.YtpcajamacpbjcaaGreat
open Lib (hid)
open Go.RowKit Go.Maps
variable {T:List (List Nat)}{O:List Bk}{ws:List Nat}{k:Nat}
open Go.Proofs.Tryz
theorem jh(f:FuncId)(A TA SA OA:Option Addr)(O:List Bk)(p:Bk->Bool)(c n tc tn sc sn oc on mb:Nat)(w:World)(ho:O.length=on)(hm:on<=1000000)(hO:RdB w w.heap.size OA O)(hcf:∀args W,(callFunc f args).run prog W=.ok (.enter f args) W)(HF:∀k (h:k<O.length) W,Below w.heap.size w W->Calls prog f #[.agg #[.slice A n c,.slice TA tn tc,.slice SA sn sc,.slice OA on oc,.map (some mb)],O[k].val] W λe w'=>e=.returned (.bool (p O[k]))/\Below W.heap.size W w'):
 Calls prog 100 #[.agg #[.slice A n c,.slice TA tn tc,.slice SA sn sc,.slice OA on oc,.map (some mb)],.func (.func f) #[.agg #[.slice A n c,.slice TA tn tc,.slice SA sn sc,.slice OA on oc,.map (some mb)]] #[]] w λe w'=>e=.returned (.bool (O.all p))/\Below w.heap.size w w':=by
 subst ho;have E:=hid (Bx.new w 163 #[.slice A n c,.slice TA tn tc,.slice SA sn sc,.slice OA O.length oc,.map (some mb)]);have H:=hid ((kqk w.heap.size w).alloc (kqa _) (.cells #[.slice A n c,.slice TA tn tc,.slice SA sn sc,.slice OA O.length oc,.map (some mb)] 163));have HR:=hid hO;have D:=hid HF;have u:=hid hcf;have Z:Hid ((∀j (h:j<O.length),p O[j]=true)->O.all p=true):=hid λh=>kzo.2 λx z=>by
  obtain⟨j,m,rfl⟩:=kq2 z;exact h j m
 have S:Hid (∀j (h:j<O.length),p O[j]=false->O.all p=false):=hid λj m h=>by
  cases y:O.all p with
  | false=>rfl
  | true=>rw[kzo.1 y _ (kqp m)] at h;cases h
 obtain⟨G,o⟩:=xq (w.alloc (.cells #[.slice A n c,.slice TA tn tc,.slice SA sn sc,.slice OA O.length oc,.map (some mb)] 163));have C:=hid (show Below w.heap.size w G by rw[<-o];exact H.out);rw[o] at E;obtain⟨q0,q1,q2,q3,q4,-,-⟩:=E.out.c5;clear hO HF E H hcf;go_enter func100,ntmps100;go_wp2_with fail;clear o;go_loopw [10] (λi wr=>∃k:Nat,k<=O.length/\i=.int .i64 k/\Hid (∀j (h:j<O.length),j<k->p O[j]=true)/\Below w.heap.size w wr) (λi _=>O.length-(intOf i).toNat)
 case atStart=>exact⟨0,kqy _,rfl,hid λj _ h=>absurd h (by omega),C.out⟩
 obtain⟨k,R,rfl,I,B⟩:=hrel;have T:=B.size;by_cases d:k<O.length
 .obtain ⟨b,off,rfl,V,K,N,P,Q,J,M⟩:=RdB.at_ (Rd.below HR.out B) d;have t:=hid (D.out k d);have l:Hid (p O[k]=true->∀j (h:j<O.length),j<k+1->p O[j]=true):=hid λh1 j m h=>by
   rcases kq6 j k with L|L
   .exact I.out j m L
   have:j=k:=by omega
   subst this;exact h1
  have s:=hid (S.out k d);obtain⟨x,z⟩:=xq (O[k]);rw[z] at K N P Q J M t l s;obtain⟨q,y⟩:=xq (p x);rw[y] at t l s;obtain⟨Y,xs,xk,U,xm,X⟩:=x;dsimp only[Bk.val] at K N P Q J M t;have hki:(k:Int)<(O.length:Int):=by omega
  have hk0:(0:Int)<=(k:Int):=by omega
  have a:=hid (B.alloc T (.cells #[.int .i64 Y,.int .i64 xs,.int .i64 xk,.int .i64 U,.bool xm,.int .u64 (X:Int)] 55));clear z y V;cases q
  .have v:=hid (s.out rfl);go_wp2_with fail;rw[u.out];simp only[Oper.upon];refine (t.out _ a.out).mono ?_;rintro e w5 ⟨rfl,g⟩;have r:=hid (a.out.trans (g.mono a.out.size));clear g;go_wp2;go_ret;exact⟨by rw[v.out];rfl,r.out⟩
  have v:=hid (l.out rfl);go_wp2_with fail;rw[u.out];simp only[Oper.upon];refine (t.out _ a.out).mono ?_;rintro e w5 ⟨rfl,g⟩;have r:=hid (a.out.trans (g.mono a.out.size));clear g;go_wp2;go_roundw
  case rel=>exact⟨k+1,by omega,by go_num,v,r.out⟩
  case measure=>simp[intOf];omega
 have F:k=O.length:=by omega
 have v:=hid (Z.out λj m=>I.out j m (by omega));have hend:decide ((k:Int)<(O.length:Int))=false:=by rw[kqh];omega
 have hendn:decide (k<O.length)=false:=by rw[kqh];exact d
 clear F d R;go_wp2;go_ret;exact⟨by rw[v.out];rfl,B⟩
theorem tB:(prog.info? 163).map (·.size)=some 5:=by kernel_rfl
theorem zeroSg(w:World):(zeroValue 163).run prog w=.ok (.agg #[.slice none 0 0,.slice none 0 0,.slice none 0 0,.slice none 0 0,.map none]) w:=by kernel_rfl
theorem ff{fn:Func}{p q:Tmp}(h:fn.results=#[.cell p 163,.tmp q])(tmps:Array Value){W:World}{g:Nat}{t:TypeId}{cs:Array Value}{u:Value}(hb:Bx W g t cs)(hs:cs.size=5)(hp:tmps.getD p undef=.pointer (some ⟨g,0,none⟩))(hq:tmps.getD q undef=u):
 (results fn tmps).run prog W=.ok (.tuple #[.agg cs,u]) W:=by
 have a:tmps[p]?.getD undef=.pointer (some ⟨g,0,none⟩):=by simpa using hp
 have b:tmps[q]?.getD undef=u:=by simpa using hq
 have c:(prog.info? 163).map (·.size)=some cs.size:=by rw[hs];exact tB
 have d:=run_loadVar_row W g t 163 cs (0,0) _ hb underlying163 rfl c;simp[results,h,a,b,asAddr,d]
structure PtOk (ws:List Nat) (A:Option Addr) (n c:Nat) (w':World) (sv:Array Value) (t:Nat) (l:List Bk):Prop where
 ty:tyN ws=some t
 bl:blocks ws 128=some l
 z1:iZ ws 16=true
 z2:iZ ws 24=true
 tys:jN ws t=true
 sls:slsOk ws=true
 adj:lL l=true
 mem:∃(TA SA OA:Option Addr) (tc sc oc mb:Nat) (L:List Ty),sv=#[.slice A n c,.slice TA L.length tc,.slice SA 16 sc,.slice OA (aK l).length oc,.map (some mb)]/\RdL w' w'.heap.size TA L/\L.map Ty.l=iV ws t 8/\RdS w' w'.heap.size SA (slL ws)/\RdB w' w'.heap.size OA (aK l)/\w'.ownsMap prog 3 (plainElem prog 4) mb (aK l).length (fd ((aK l).map Bk.at_) (aK l).length)
def PtRes (ws:List Nat) (A:Option Addr) (n c:Nat) (e:Ending) (w':World):Prop:=∃(r:Int) (sv:Array Value),e=.returned (.tuple #[.agg sv,.int .i64 r])/\0<=r/\(r≠0->lay ws=false/\sv=#[.slice none 0 0,.slice none 0 0,.slice none 0 0,.slice none 0 0,.map none])/\(r=0->∃t l,PtOk ws A n c w' sv t l)
def El (H:Nat) (ws:List Nat) (e:Ending) (w':World):Prop:=(dt ws=0->∃g,e=.returned (.tuple #[.slice (some ⟨g,0,none⟩) 16 16,.int .i64 (dt ws)])/\H<=g/\Bx w' g 118 ((slL ws).flatMap Sl.cells).toArray)/\(dt ws≠0->e=.returned (.tuple #[.slice none 0 0,.int .i64 (dt ws)]))
theorem Ge(A:Option Addr)(ws:List Nat)(c n:Nat)(w:World)(hn:ws.length=n)(hm:n<=9223372036854775807)(u:RdW w w.heap.size A ws)(ho:∀x∈ws,x<18446744073709551616):
 Calls prog 25 #[.slice A n c] w λe w'=>El w.heap.size ws e w'/\Below w.heap.size w w':=by
 have o:=hid (ym A ws c n w hn hm u ho);clear u ho hn hm;have q:=fZ;by_cases f:dt ws=0
 .have d:eW ws=slL ws:=by simp[eW,f]
  have F:=hid (And.intro f d);have J:=gH ws;rw[f,Fk f] at o;have b:(ib (slL ws)).size=48:=by rw[gQ,gH]
  obtain⟨l,k⟩:=xq (slL ws);have H:=hid k;rw[k] at b o J F;have C:Hid (ib l=(l.flatMap Sl.cells).toArray):=hid rfl;have K:=hid (ky l);obtain⟨cs,z⟩:=xq (ib l);rw[z] at o b C K;have p:(prog.info? 118).map (·.size)=some cs.size:=by rw[b];exact kf
  clear f d k z J q;go_enter func25,ntmps25;go_wp2_with fail;refine o.out.mono ?_;rintro e t ⟨rfl,a⟩;have G:=ny;have D:cs.size=bI.size:=by rw[b,fZ]
  have B:=Bx.new t 118 bI;have E:=hid B;have m:=hid (a.alloc a.size (.cells bI 118));have j:=a.size;clear B a;go_wp2_with (first
   | ((with_reducible refine aq 118 (.tmp 4) _ ?_);refine ai rfl _ _ _ rfl t.heap.size 118 bI cs (by rfl) (by rfl) E.out D p K.out ?_;intro L g i;have y:=hid g;have s:=hid (i.below m.out j);clear g i))
  go_ret2;refine⟨⟨λ_=>⟨t.heap.size,by rw[F.out.1];rfl,j,?_⟩,λh=>absurd F.out.1 h⟩,s.out⟩;have:=y.out;rw[C.out] at this;rw[H.out];exact this
 have d:eW ws=[]:=by simp[eW,f]
 rw[D3 f] at o;obtain⟨r,u⟩:=xq (dt ws);have I:=hid u;rw[u] at o f;have M:=hid f;have hrn:(r != 0)=true:=by rw[kqu];exact f
 have j:=hid lw;have p:(prog.info? 118).map (·.size)=some bI.size:=by rw[q];exact kf
 clear f d u q;go_enter func25,ntmps25;go_wp2_with fail;refine o.out.mono ?_;rintro e t ⟨rfl,a⟩;have G:=ny;have B:=Bx.new t 118 bI;have E:=hid B;have m:=hid (a.alloc a.size (.cells bI 118));have v:=a.size;clear B a;go_wp2_with (first
  | ((with_reducible refine aq 118 (.tmp 4) _ ?_);refine ai rfl _ _ _ rfl t.heap.size 118 bI bI (by rfl) (by rfl) E.out rfl p j.out ?_;intro L g i;have y:=hid g;have s:=hid (i.below m.out v);clear g i))
 go_ret2;exact⟨⟨λh=>absurd (I.out.symm.trans h) M.out,λ_=>by rw[I.out];rfl⟩,s.out⟩
structure PtS (wr:World) (H0 H3 H7 gs:Nat) (ws:List Nat) (TB AW:Option Addr) (td cW:Nat) (L:List Ty) (l:List Bk):Prop where
 x:Bx wr H0 163 #[.slice none 0 0,.slice none 0 0,.slice none 0 0,.slice none 0 0,.map none]
 t:DG wr H3 (.slice TB L.length td) L
 s:Bx wr gs 118 ((slL ws).flatMap Sl.cells).toArray
 b:wr.ownsRow H7 55 6 (.slice AW l.length cW) l.length (l.flatMap Bk.cells)
section
variable {wr wr':World} {H0 H3 H7 gs:Nat} {ws:List Nat} {TB AW:Option Addr} {td cW:Nat} {L:List Ty} {l:List Bk}
theorem PtS.alloc(h:PtS wr H0 H3 H7 gs ws TB AW td cW L l)(o:Obj):PtS (wr.alloc o) H0 H3 H7 gs ws TB AW td cW L l:=
 ⟨h.x.alloc o,⟨h.t.1.alloc o,λy a=>(h.t.2 y a).alloc o⟩,h.s.alloc o,h.b.alloc o⟩
theorem PtS.set_(h:PtS wr H0 H3 H7 gs ws TB AW td cW L l){p:Addr}(h0:H0≠p.block)(h3:p.block<H3)(h37:H3<=H7)(hg:H7<=gs)(u:Value):PtS (wr.setCell p u) H0 H3 H7 gs ws TB AW td cW L l:=
 ⟨h.x.far h0 u,⟨au h.t.1 (bD h.t.1 h3).symm u,λy a=>au (h.t.2 y a) (bD (h.t.2 y a) h3).symm u⟩,h.s.far (by omega) u,au h.b (bD h.b (by omega)).symm u⟩
theorem PtS.grown(h:PtS wr H0 H3 H7 gs ws TB AW td cW L l){row:Option Nat}(hg:wr.grownBy wr' row)(h0:some H0≠row)(hgs:some gs≠row)(h1:(Value.slice TB L.length td).ownBlock=none\/(Value.slice TB L.length td).ownBlock≠row)(h2:∀y∈L,(Value.slice y.A y.l.length y.c).ownBlock=none\/(Value.slice y.A y.l.length y.c).ownBlock≠row)(h3:(Value.slice AW l.length cW).ownBlock=none\/(Value.slice AW l.length cW).ownBlock≠row):PtS wr' H0 H3 H7 gs ws TB AW td cW L l:=
 ⟨h.x.grown hg h0,⟨bp h.t.1 hg h1,λy a=>bp (h.t.2 y a) hg (h2 y a)⟩,h.s.grown hg hgs,bp h.b hg h3⟩
def ptBk (B H0 gs:Nat) (TB AW:Option Addr) (td cW:Nat) (L:List Ty) (l:List Bk):Prop:=∀r,B<=r->H0≠r/\gs≠r/\(Value.slice TB L.length td).ownBlock≠some r/\(∀y∈L,(Value.slice y.A y.l.length y.c).ownBlock≠some r)/\(Value.slice AW l.length cW).ownBlock≠some r
theorem PtS.bk(h:PtS wr H0 H3 H7 gs ws TB AW td cW L l):ptBk wr.heap.size H0 gs TB AW td cW L l:=λr hr=>by
 refine⟨by have:=h.x.lt;omega,by have:=h.s.lt;omega,λe=>?_,λy a e=>?_,λe=>?_⟩
 .have:=(h.t.1.lt r e).2;omega
 .have:=((h.t.2 y a).lt r e).2;omega
 .have:=(h.b.lt r e).2;omega
theorem PtS.late(h:PtS wr H0 H3 H7 gs ws TB AW td cW L l){B:Nat}(hk:ptBk B H0 gs TB AW td cW L l){n:Nat}{v:Value}{xs:List Value}{e:TypeId}{sz:Nat}{wa:World}(hown:wa.ownsRow B e sz v n xs)(hg:wr.grownBy wr' v.ownBlock):PtS wr' H0 H3 H7 gs ws TB AW td cW L l:=by
 cases a:v.ownBlock with
 | none=>exact h.grown hg (by rw[a];simp) (by rw[a];simp) (by rw[a];exact Classical.em _) (λy _=>by rw[a];exact Classical.em _) (by rw[a];exact Classical.em _)
 | some r =>obtain⟨f,g,d,b,c⟩:=hk r (hown.lt r a).1;exact h.grown hg (by rw[a];simpa using f) (by rw[a];simpa using g) (.inr (by rw[a];exact d)) (λy i=>.inr (by rw[a];exact b y i)) (.inr (by rw[a];exact c))
end
theorem F6{l:List Bk}(hk:k<l.length)(h1:l[k].kind=1):(aK l)[(aK (l.take k)).length]? = some l[k]:=by
 have e:l=l.take k++l[k]::l.drop (k+1):=by rw[List.getElem_cons_drop];exact (kz9 k l).symm
 have a:aK l=aK (l.take k)++l[k]::aK (l.drop (k+1)):=by
  conv=>lhs;rw[e]
  unfold aK;rw[kxx,kks (by rw[kqw];exact h1)]
 rw[a,kxe (kqa _)];simp
theorem z9(A:Option Addr)(ws:List Nat)(c n:Nat)(w:World)(hn:ws.length=n)(hs:ap (n:Int)=true)(hc:n<=c)(V:RdW w w.heap.size A ws)(ho:∀x∈ws,x<18446744073709551616):
 Calls prog 94 #[.slice A n c] w λe w'=>PtRes ws A n c e w'/\Below w.heap.size w w':=by
 subst hn;have hb:=(ae _).1 hs;have HR:=hid V;have D:=hid (λW (V:RdW W W.heap.size A ws)=>Dm A ws c ws.length W rfl (by omega) hc V);unfold TwRes at D;have Jh:nI ws=if (tyN ws).isSome=true then 0 else 50:=by unfold nI;rw[if_pos hs]
 have Kc:=hid (λW (V:RdW W W.heap.size A ws)=>(show Calls prog 157 #[.slice A ws.length c,.int .i64 16] W λe w'=>e=.returned (.bool (iZ ws 16))/\W=w' from tR A ws c ws.length 16 W rfl (by omega) (by omega) hc V));have Kb:=hid (λW (V:RdW W W.heap.size A ws)=>(show Calls prog 157 #[.slice A ws.length c,.int .i64 24] W λe w'=>e=.returned (.bool (iZ ws 24))/\W=w' from tR A ws c ws.length 24 W rfl (by omega) (by omega) hc V));have Kr:=hid (λW (V:RdW W W.heap.size A ws)=>Ge A ws c ws.length W rfl (by omega) V ho);have Km:=hid (λW (V:RdW W W.heap.size A ws)=>GA A ws c ws.length W rfl (by omega) V ho);unfold El at Kr;unfold xT at Km;have hzv:=zeroSg;have Ja:(prog.info? 163).map (·.size)=some (#[.slice none 0 0,.slice none 0 0,.slice none 0 0,.slice none 0 0,.map none]:Array Value).size:=tB;have X0:=hid (Bx.new w 163 #[.slice none 0 0,.slice none 0 0,.slice none 0 0,.slice none 0 0,.map none]);have C:=hid ((kqk w.heap.size w).alloc (kqa _) (.cells #[.slice none 0 0,.slice none 0 0,.slice none 0 0,.slice none 0 0,.map none] 163));cases ht:tyN ws with
 | none =>
  rw[ht] at D Jh;rw[Jh] at D;have HV:=hid (tN (.inl ht));simp only[Option.getD_none,kkp,kzs,if_false] at D;clear Jh ht hs hb V ho Kc Kb Kr Km hc;go_enter func94,ntmps94;go_wp2_with fail;refine (D.out _ (HR.out.up C.out C.out.size)).mono ?_;rintro e w1 ⟨⟨a,b0,b1,rfl⟩,Jb⟩;have o:=hid (C.out.trans (Jb.mono C.out.size));have X1:=hid (X0.out.up Jb X0.out.lt);have Jf:=o.out.size;have r:=hid ((o.out.alloc Jf (.cells #[.int .i64 a,.int .i64 0] 126)).alloc (by simp;omega) (.cells #[.bool b0,.bool b1] 127));have X2:=hid ((X1.out.alloc (.cells #[.int .i64 a,.int .i64 0] 126)).alloc (.cells #[.bool b0,.bool b1] 127));clear Jb;go_wp2_with (first
   | ((with_reducible refine aq 163 (.tmp 2) _ ?_);refine ai rfl _ _ _ rfl w.heap.size 163 #[.slice none 0 0,.slice none 0 0,.slice none 0 0,.slice none 0 0,.map none] #[.slice none 0 0,.slice none 0 0,.slice none 0 0,.slice none 0 0,.map none] (by rfl) (by rfl) X2.out rfl Ja (by simp[Value.oneCell']) ?_;intro w9 d g;have m:=hid d;have j:=hid g;clear d g))
  exact kqr (v:=.tuple #[.agg #[.slice none 0 0,.slice none 0 0,.slice none 0 0,.slice none 0 0,.map none],.int .i64 1]) (ff results94 _ m.out rfl rfl rfl) rfl ⟨⟨1,_,rfl,by omega,λ_=>⟨HV.out,rfl⟩,λh=>by omega⟩,j.out.below r.out (kqa _)⟩
 | some t =>
  have Mb:=yQ ht;rw[ht] at D Jh;rw[Jh] at D;simp only[kq8,kvm,if_true] at D;have Lm:=hid (λW (V:RdW W W.heap.size A ws)=>DT A ws c ws.length t W rfl hs Mb V ho);unfold E3 at Lm;have Lp:=hid (λl O=>o8 (ws:=ws) (t:=t) (l:=l) ht O);have Ko:=hid (λh=>tN (ws:=ws) (.inr h));have Jp:Hid ((iZ ws 16=false\/iZ ws 24=false\/jN ws t=false\/slsOk ws=false\/Fr ws=false)->lay ws=false):=hid λh=>by
   cases hq:lay ws with
   | false=>rfl
   | true =>
    cases O:blocks ws 128 with
    | none=>rw[Ko.out O] at hq;cases hq
    | some l =>obtain⟨a1,a2,a3,a4,a5,-⟩:=(Lp.out l O).1 hq;rw[a1,a2,a3,a4,nh O,a5] at h;simp at h
  have Mw:Hid (∀l,blocks ws 128=some l->∀k (hk:k<l.length),∃ka:Nat,l[k].at_=(ka:Int)/\ka<=2048):=hid λl O k hk=>by
   obtain⟨a,e,a1,a2,a3,a4,-⟩:=b9 _ _ O (by omega) k hk;exact⟨a,by rw[e];rfl,by have:=(aG a4).2.2;omega⟩
  have Mh:=hid (λl (O:blocks ws 128=some l)=>(cd (by omega) _ _ O (by omega) (by omega) (by omega)).1);have Ks:=hid hs;have HT:=hid ht;have Ll:Hid (∀mb W,(Instr.build 163 #[(0,.slice A ws.length c),(4,.map (some mb))]).run prog W=.ok (.agg #[.slice A ws.length c,.slice none 0 0,.slice none 0 0,.slice none 0 0,.map (some mb)]) W):=hid λ_ _=>by kernel_rfl
  have hb2048:ws.length<=2048:=by omega
  clear Jh hs hb V ho ht hc;go_enter func94,ntmps94;go_wp2_with fail;refine (D.out _ (HR.out.up C.out C.out.size)).mono ?_;rintro e w1 ⟨⟨a,b0,b1,rfl⟩,Jb⟩;have o:=hid (C.out.trans (Jb.mono C.out.size));have X1:=hid (X0.out.up Jb X0.out.lt);have Jf:=o.out.size;have r:=hid ((o.out.alloc Jf (.cells #[.int .i64 a,.int .i64 (t:Int)] 126)).alloc (by simp;omega) (.cells #[.bool b0,.bool b1] 127));have X2:=hid ((X1.out.alloc (.cells #[.int .i64 a,.int .i64 (t:Int)] 126)).alloc (.cells #[.bool b0,.bool b1] 127));have T4:=hid ((Bx.new w1 126 #[.int .i64 a,.int .i64 (t:Int)]).alloc (.cells #[.bool b0,.bool b1] 127));clear Jb;go_wp2_with fail;obtain⟨f,Kz⟩:∃f,(w1.alloc (.cells #[.int .i64 a,.int .i64 (t:Int)] 126)).alloc (.cells #[.bool b0,.bool b1] 127)=f:=⟨_,rfl⟩;rw[Kz] at r X2 T4 |-;clear Kz X0 X1 C o;have Jc:=r.out.size;refine (Kc.out _ (HR.out.up r.out Jc)).mono ?_;rintro e w2 ⟨rfl,rfl⟩;cases Kh:iZ ws 16
  .have HV:=hid (Jp.out (.inl Kh));go_wp2_with (first
    | ((with_reducible refine aq 163 (.tmp 2) _ ?_);refine ai rfl _ _ _ rfl w.heap.size 163 #[.slice none 0 0,.slice none 0 0,.slice none 0 0,.slice none 0 0,.map none] #[.slice none 0 0,.slice none 0 0,.slice none 0 0,.slice none 0 0,.map none] (by rfl) (by rfl) X2.out rfl Ja (by simp[Value.oneCell']) ?_;intro w9 d g;have m:=hid d;have j:=hid g;clear d g))
   exact kqr (v:=.tuple #[.agg #[.slice none 0 0,.slice none 0 0,.slice none 0 0,.slice none 0 0,.map none],.int .i64 2]) (ff results94 _ m.out rfl rfl rfl) rfl ⟨⟨2,_,rfl,by omega,λ_=>⟨HV.out,rfl⟩,λh=>by omega⟩,j.out.below r.out (kqa _)⟩
  have Lw:=hid Kh;clear Kh;go_wp2_with fail;refine (Kb.out _ (HR.out.up r.out Jc)).mono ?_;rintro e w2 ⟨rfl,rfl⟩;cases Ke:iZ ws 24
  .have HV:=hid (Jp.out (.inr (.inl Ke)));go_wp2_with (first
    | ((with_reducible refine aq 163 (.tmp 2) _ ?_);refine ai rfl _ _ _ rfl w.heap.size 163 #[.slice none 0 0,.slice none 0 0,.slice none 0 0,.slice none 0 0,.map none] #[.slice none 0 0,.slice none 0 0,.slice none 0 0,.slice none 0 0,.map none] (by rfl) (by rfl) X2.out rfl Ja (by simp[Value.oneCell']) ?_;intro w9 d g;have m:=hid d;have j:=hid g;clear d g))
   exact kqr (v:=.tuple #[.agg #[.slice none 0 0,.slice none 0 0,.slice none 0 0,.slice none 0 0,.map none],.int .i64 3]) (ff results94 _ m.out rfl rfl rfl) rfl ⟨⟨3,_,rfl,by omega,λ_=>⟨HV.out,rfl⟩,λh=>by omega⟩,j.out.below r.out (kqa _)⟩
  have Mu:=hid Ke;clear Ke;have Mq:=Ll.out;have Mc:=@run_makeMap prog;obtain⟨-,t41,-,-,Mz⟩:=T4.out.c2;go_wp2_with fail;have g3:=Bx.new (f.alloc (Obj.map #[] 0)) 163 #[.slice A ws.length c,.slice none 0 0,.slice none 0 0,.slice none 0 0,.map (some f.heap.size)];rw[kqm] at g3;have m3:=(World.ownsMap_made (H:=Unit) f prog 3 (plainElem prog 4)).alloc (.cells #[.slice A ws.length c,.slice none 0 0,.slice none 0 0,.slice none 0 0,.map (some f.heap.size)] 163);have x3:=(X2.out.alloc (Obj.map #[] 0)).alloc (.cells #[.slice A ws.length c,.slice none 0 0,.slice none 0 0,.slice none 0 0,.map (some f.heap.size)] 163);have Jj:=(r.out.alloc Jc (Obj.map #[] 0)).alloc (by simp;omega) (.cells #[.slice A ws.length c,.slice none 0 0,.slice none 0 0,.slice none 0 0,.map (some f.heap.size)] 163);have Kf:((f.alloc (Obj.map #[] 0)).alloc (.cells #[.slice A ws.length c,.slice none 0 0,.slice none 0 0,.slice none 0 0,.map (some f.heap.size)] 163)).heap.size=f.heap.size+1+1:=by simp
  obtain⟨W3,Lh⟩:=xq ((f.alloc (Obj.map #[] 0)).alloc (.cells #[.slice A ws.length c,.slice none 0 0,.slice none 0 0,.slice none 0 0,.map (some f.heap.size)] 163));rw[Lh] at g3 m3 x3 Jj Kf |-;have Kw:=hid Kf;have Mf:w.heap.size<=W3.heap.size:=Jj.size;refine (Lm.out _ (HR.out.up Jj Jj.size)).mono ?_;rintro e w4 ⟨⟨I,tm,J,L,rfl,hT⟩,Jk⟩;have g4:=g3.up Jk g3.lt;have M4:=hid (dL m3 (Jk.block _ m3.lt));have X4:=hid (x3.up Jk x3.lt);have Kp:=hid (Jj.trans (Jk.mono Mf));have hz4:=Jk.size;have Ln:=x3.lt;have hg4:=g4.lt;obtain⟨q0,q1,q2,q3,q4,qf,-⟩:=g4.c5;have f1:=qf 1;have G4:=hid g4;have u:w.heap.size≠f.heap.size+1:=by have:=X2.out.lt;omega
  have hne7':=u.symm;clear Lh g3 m3 x3 Jj Kf Jk qf g4 X2 r T4 t41 Mz Mq Mc;cases Je:jN ws t
  .rw[Je] at hT;simp only[kzs,if_false];have HV:=hid (Jp.out (.inr (.inr (.inl Je))));have X5:=hid (X4.out.far (p:=⟨f.heap.size+1,1,none⟩) u (.slice I tm J));have Mv:=hid (Kp.out.setCell (p:=⟨f.heap.size+1,1,none⟩) (by dsimp only;omega) (.slice I tm J));clear hT Je;go_wp2_with (first
    | ((with_reducible refine aq 163 (.tmp 2) _ ?_);refine ai rfl _ _ _ rfl w.heap.size 163 #[.slice none 0 0,.slice none 0 0,.slice none 0 0,.slice none 0 0,.map none] #[.slice none 0 0,.slice none 0 0,.slice none 0 0,.slice none 0 0,.map none] (by rfl) (by rfl) X5.out rfl Ja (by simp[Value.oneCell']) ?_;intro w9 d g;have m:=hid d;have j:=hid g;clear d g))
   exact kqr (v:=.tuple #[.agg #[.slice none 0 0,.slice none 0 0,.slice none 0 0,.slice none 0 0,.map none],.int .i64 4]) (ff results94 _ m.out rfl rfl rfl) rfl ⟨⟨4,_,rfl,by omega,λ_=>⟨HV.out,rfl⟩,λh=>by omega⟩,j.out.below Mv.out (kqa _)⟩
  obtain⟨rfl,Jr,Kx⟩:=hT Je;simp only[if_true];have Lv:=hid Je;have Lq:=hid Kx;have N:f.heap.size+1<W3.heap.size:=by have:=Kw.out;omega
  have OT5:=hid (show DG (w4.setCell ⟨f.heap.size+1,1,none⟩ (.slice I L.length J)) W3.heap.size (.slice I L.length J) L from ⟨au Jr.1 (bD Jr.1 N).symm _,λy hy=>au (Jr.2 y hy) (bD (Jr.2 y hy) N).symm _⟩);have X5:=hid (X4.out.far (p:=⟨f.heap.size+1,1,none⟩) u (.slice I L.length J));have G5:=hid (G4.out.set_ 1 (.slice I L.length J));have M5:=hid (M4.out.setCell (a:=⟨f.heap.size+1,1,none⟩) (by simp) (.slice I L.length J));have Jg:=Kp.out.setCell (p:=⟨f.heap.size+1,1,none⟩) (by dsimp only;omega) (.slice I L.length J);clear hT Je Jr Kx;go_wp2_with fail;obtain⟨W5,Kj⟩:∃W5,w4.setCell ⟨f.heap.size+1,1,none⟩ (.slice I L.length J)=W5:=⟨_,rfl⟩;have Mp:W5.heap.size=w4.heap.size:=by rw[<-Kj];simp
  rw[Kj] at OT5 X5 G5 M5 Jg |-;refine (Kr.out _ (HR.out.up Jg Jg.size)).mono ?_;rintro e w6 ⟨hh,S⟩;have Lf:=Jg.trans (S.mono Jg.size);have g6:=G5.out.up S G5.out.lt;have X6:=hid (X5.out.up S X5.out.lt);have M6:=hid (dL M5.out (S.block _ M5.out.lt));have OT6:=hid (show DG w6 W3.heap.size (.slice I L.length J) L from ⟨ak OT5.out.1 S (kqa _),λy hy=>ak (OT5.out.2 y hy) S (kqa _)⟩);have hz6:=S.size;have hx6:=X6.out.lt;obtain⟨q0',q1',q2',q3',q4',qf',hg6⟩:=g6.c5;have f2:=qf' 2;have G6:=hid g6;have Jd:=hid Lf;have hgz:f.heap.size+1<W5.heap.size:=G5.out.lt;have h35:W3.heap.size<=W5.heap.size:=by omega
  have q:dt ws=if slsOk ws=true then 0 else 50:=by unfold dt;rw[if_pos Ks.out]
  clear Kj Mp Jg S Lf g6 qf' q0 q1 q2 q3 q4 f1 X4 G4 M4 Kp X5 G5 M5 OT5;cases Jm:slsOk ws
  .rw[Jm] at q;simp only[kzs,if_false] at q;obtain rfl:=hh.2 (by rw[q];decide);have HV:=hid (Jp.out (.inr (.inr (.inr (.inl Jm)))));rw[q];have X7:=hid (X6.out.far (p:=⟨f.heap.size+1,2,none⟩) u (.slice none 0 0));have Kk:=hid (Jd.out.setCell (p:=⟨f.heap.size+1,2,none⟩) (by dsimp only;omega) (.slice none 0 0));clear Jm q hh;go_wp2_with (first
    | ((with_reducible refine aq 163 (.tmp 2) _ ?_);refine ai rfl _ _ _ rfl w.heap.size 163 #[.slice none 0 0,.slice none 0 0,.slice none 0 0,.slice none 0 0,.map none] #[.slice none 0 0,.slice none 0 0,.slice none 0 0,.slice none 0 0,.map none] (by rfl) (by rfl) X7.out rfl Ja (by simp[Value.oneCell']) ?_;intro w9 d g;have m:=hid d;have j:=hid g;clear d g))
   exact kqr (v:=.tuple #[.agg #[.slice none 0 0,.slice none 0 0,.slice none 0 0,.slice none 0 0,.map none],.int .i64 5]) (ff results94 _ m.out rfl rfl rfl) rfl ⟨⟨5,_,rfl,by omega,λ_=>⟨HV.out,rfl⟩,λh=>by omega⟩,j.out.below Kk.out (kqa _)⟩
  rw[Jm] at q;simp only[if_true] at q;obtain⟨T,rfl,Ly,Lc⟩:=hh.1 q;rw[q];have Mt:=hid Jm;have Lg:T≠f.heap.size+1:=by omega
  have S7:=hid (Lc.far (p:=⟨f.heap.size+1,2,none⟩) Lg (.slice (some ⟨T,0,none⟩) 16 16));have X7:=hid (X6.out.far (p:=⟨f.heap.size+1,2,none⟩) u (.slice (some ⟨T,0,none⟩) 16 16));have G7:=hid (G6.out.set_ 2 (.slice (some ⟨T,0,none⟩) 16 16));have M7:=hid (M6.out.setCell (a:=⟨f.heap.size+1,2,none⟩) (by simp) (.slice (some ⟨T,0,none⟩) 16 16));have OT7:=hid (show DG (w6.setCell ⟨f.heap.size+1,2,none⟩ (.slice (some ⟨T,0,none⟩) 16 16)) W3.heap.size (.slice I L.length J) L from ⟨au OT6.out.1 (bD OT6.out.1 N).symm _,λy hy=>au (OT6.out.2 y hy) (bD (OT6.out.2 y hy) N).symm _⟩);have X:=Jd.out.setCell (p:=⟨f.heap.size+1,2,none⟩) (by dsimp only;omega) (.slice (some ⟨T,0,none⟩) 16 16);clear Jm q hh Lc;go_wp2_with fail;obtain⟨W7,Jt⟩:∃W7,w6.setCell ⟨f.heap.size+1,2,none⟩ (.slice (some ⟨T,0,none⟩) 16 16)=W7:=⟨_,rfl⟩;have Jv:W7.heap.size=w6.heap.size:=by rw[<-Jt];simp
  rw[Jt] at OT7 X7 G7 M7 S7 X |-;refine (Km.out _ (HR.out.up X X.size)).mono ?_;rintro e w8 ⟨⟨AW,cW,rfl,z⟩,E⟩;have Kt:=hid (X.trans (E.mono X.size));have X8:=hid (X7.out.up E X7.out.lt);have hgl:T<W7.heap.size:=S7.out.lt;have Ms:W5.heap.size<=W7.heap.size:=by omega
  cases K:Fr ws
  .have HV:=hid (Jp.out (.inr (.inr (.inr (.inr K)))));have he:kW ws=50:=by unfold kW;rw[if_pos Ks.out,K];rfl
   have ho:l9 ws=[]:=by unfold l9;rw[if_neg (by rw[he];decide)]
   rw[he,ho];clear K he ho z X E Jt Jv q0' q1' q2' q3' q4' f2;go_wp2_with (first
    | ((with_reducible refine aq 163 (.tmp 2) _ ?_);refine ai rfl _ _ _ rfl w.heap.size 163 #[.slice none 0 0,.slice none 0 0,.slice none 0 0,.slice none 0 0,.map none] #[.slice none 0 0,.slice none 0 0,.slice none 0 0,.slice none 0 0,.map none] (by rfl) (by rfl) X8.out rfl Ja (by simp[Value.oneCell']) ?_;intro w9 d g;have m:=hid d;have j:=hid g;clear d g))
   exact kqr (v:=.tuple #[.agg #[.slice none 0 0,.slice none 0 0,.slice none 0 0,.slice none 0 0,.map none],.int .i64 6]) (ff results94 _ m.out rfl rfl rfl) rfl ⟨⟨6,_,rfl,by omega,λ_=>⟨HV.out,rfl⟩,λh=>by omega⟩,j.out.below Kt.out (kqa _)⟩
  have he:kW ws=0:=by unfold kW;rw[if_pos Ks.out,K];rfl
  obtain⟨l,O⟩:∃l,blocks ws 128=some l:=by
   cases O:blocks ws 128 with
   | none=>rw[qT O] at K;cases K
   | some l=>exact⟨l,rfl⟩
  have ho:l9 ws=l:=by unfold l9;rw[if_pos he,O];rfl
  have Ka:lL l=true:=by rw[<-nh O];exact K
  rw[ho] at z;rw[he,ho];have hl24:l.length<=1024:=by have:=Mh.out l O;omega
  have HL:=hid O;have Md:=hid Ka;have P8:=hid (show PtS w8 w.heap.size W3.heap.size W5.heap.size T ws I AW J cW L l from ⟨X8.out,⟨ak OT7.out.1 E (kqa _),λy hy=>ak (OT7.out.2 y hy) E (kqa _)⟩,S7.out.up E S7.out.lt,am z Ms⟩);have Mo:=hid P8.out.bk;have G8:=hid (G7.out.up E G7.out.lt);have M8:=hid (dL M7.out (E.block _ M7.out.lt));have Ld:=G8.out.lt;have Ky:=M8.out.lt;have Mm:=Kt.out.size;have Mr:=hid (Mw.out l HL.out);clear K he ho O Ka z X E Jt Jv q0' q1' q2' q3' q4' f2 OT6 OT7 X6 X7 X8 G6 G7 M6 M7 S7 Jd;obtain⟨i2,hi,Kv,Jf,Jc⟩:=kzw pt;have HJ:=hid hi;have My:=hid Kv;have Mg:=hid Jf;have Mj:=hid Jc;clear hi Kv Jf Jc;go_wp2_with fail;go_loopw [61] (λi wr=>∃(k:Nat) (OB:Option Addr) (oc:Nat),k<=l.length/\i=.int .i64 k/\Hid (Bx wr (f.heap.size+1) 163 #[.slice A ws.length c,.slice I L.length J,.slice (some ⟨T,0,none⟩) 16 16,.slice OB (aK (l.take k)).length oc,.map (some f.heap.size)])/\Hid (wr.ownsRow w8.heap.size 55 6 (.slice OB (aK (l.take k)).length oc) (aK (l.take k)).length ((aK (l.take k)).flatMap Bk.cells))/\Hid (wr.ownsMap prog 3 (plainElem prog 4) f.heap.size (aK (l.take k)).length (fd ((aK l).map Bk.at_) (aK (l.take k)).length))/\Hid (PtS wr w.heap.size W3.heap.size W5.heap.size T ws I AW J cW L l)/\w8.heap.size<=wr.heap.size/\Hid (Below w.heap.size w wr)) (λi _=>l.length-(intOf i).toNat)
  case atStart=>exact⟨0,none,0,kqy _,rfl,G8,hid (kza _ _ _ _),M8,P8,kqa _,Kt⟩
  obtain⟨k,OB,oc,hk,rfl,G,ON,M,P,Lo,HB⟩:=hrel;have hz:=HB.out.size;by_cases Ju:k<l.length
  .obtain ⟨b,off,rfl,hbb,p0,p1,p2,p3,p4,p5⟩:=RdB.at_ (show RdB wr wr.heap.size AW l from Rd.of_own P.out.b) Ju;have U:=hid (Ad Ju);have Ji:=hid (F6 Ju);have Lk:(aK (l.take k)).length<=k:=by unfold aK;have:=kj8 (λb:Bk=>b.kind==1) (l.take k);rw[kq3] at this;omega
   obtain⟨x,hx⟩:=xq (l[k]);rw[hx] at p0 p1 p2 p3 p4 p5 U Ji;obtain⟨B,xs,xk,R,Q,F⟩:=x;dsimp only at p0 p1 p2 p3 p4 p5 U Ji;obtain⟨LK,Ku⟩:=xq (aK (l.take k));rw[Ku] at G ON M U Ji Lk;have hki:(k:Int)<(l.length:Int):=by omega
   have hk0:(0:Int)<=(k:Int):=by omega
   obtain⟨ka,Jw,hka2⟩:=Mr.out k Ju;rw[hx] at Jw;dsimp only at Jw;clear hx Ku;by_cases Jo:xk=1
   .have Z:Hid (aK (l.take (k+1))=LK++[⟨B,xs,xk,R,Q,F⟩]):=hid (by rw[U.out,if_pos Jo]);have HX:=hid (Ji.out Jo);have Lu:Hid (fd ((aK l).map Bk.at_) (LK.length+1)=(fd ((aK l).map Bk.at_) LK.length).put (.int .i64 B) (.lit (.bool true))):=hid (by simp only[fd,kx8,HX.out];rfl);have Le:(Lit.int .i64 B).wf=true:=by simp[Lit.wf,IntKind.min,IntKind.max,IntKind.signed,IntKind.bits];omega
    have HK:=hid (keyOf_int_mk (P:=prog) underlying3 Le);subst Jo;obtain⟨g0,g1,g2,g3,g4,gf,-⟩:=G.out.c5;have gf3:=gf 3;have hgw:=G.out.lt;have Jq:=hid (ON.out.alloc (.cells #[.int .i64 B,.int .i64 xs,.int .i64 1,.int .i64 R,.bool Q,.int .u64 (F:Int)] 55));have Kn:=hid (G.out.alloc (.cells #[.int .i64 B,.int .i64 xs,.int .i64 1,.int .i64 R,.bool Q,.int .u64 (F:Int)] 55));have Kq:=hid (M.out.alloc (.cells #[.int .i64 B,.int .i64 xs,.int .i64 1,.int .i64 R,.bool Q,.int .u64 (F:Int)] 55));have Kg:=hid (P.out.alloc (.cells #[.int .i64 B,.int .i64 xs,.int .i64 1,.int .i64 R,.bool Q,.int .u64 (F:Int)] 55));have o:=hid (HB.out.alloc hz (.cells #[.int .i64 B,.int .i64 xs,.int .i64 1,.int .i64 R,.bool Q,.int .u64 (F:Int)] 55));have BX1:=hid (Bx.new wr 55 #[.int .i64 B,.int .i64 xs,.int .i64 1,.int .i64 R,.bool Q,.int .u64 (F:Int)]);have Jz:w8.heap.size<=(wr.alloc (.cells #[.int .i64 B,.int .i64 xs,.int .i64 1,.int .i64 R,.bool Q,.int .u64 (F:Int)] 55)).heap.size:=aY Lo;have Kd:=hid Jz;have Ko:=hid (show some wr.heap.size≠(Value.slice OB LK.length oc).ownBlock from λh=>by have:=(ON.out.lt _ h.symm).2;omega);have hmw:=M.out.lt
    have Js:=dd (wr.alloc (.cells #[.int .i64 B,.int .i64 xs,.int .i64 1,.int .i64 R,.bool Q,.int .u64 (F:Int)] 55)) [.int .i64 B,.int .i64 xs,.int .i64 1,.int .i64 R,.bool Q,.int .u64 (F:Int)] 55;rw[kqm] at Js;have Js:=hid Js;clear U Ji Le gf Jw Jz;go_wp2_with (first
     | (at_builtin;refine kzk _ rfl _ _ 48 rfl w8.heap.size 55 i2 _ 6 48 underlying48 HJ.out My.out Mg.out Mj.out rfl (by decide) _ _ _ rfl (Jq.out.alloc _) ⟨_,0,none⟩ 1 1 [.int .i64 B,.int .i64 xs,.int .i64 1,.int .i64 R,.bool Q,.int .u64 (F:Int)] rfl rfl Js.out (by simp[Value.oneCell']) (by unfold maxLen;omega) (by omega) (aY Kd.out) ?_;intro v1 w6 Y Eq _;obtain⟨OV,oc2,rfl⟩:=aS Y;have Jd:=hid (aO o.out o.out.size (am Jq.out Mm) Eq);have Kl:=hid Y;have Lb:=hid ((Kn.out.alloc _).grown Eq (bD ON.out Ld));have Mx:=hid ((Kq.out.alloc _).kept Eq (bD ON.out Ky));have Lr:=hid ((Kg.out.alloc _).late Mo.out Jq.out Eq);have BX6:=hid ((BX1.out.alloc _).grown Eq Ko.out);have Lx:=kz1 (aY Kd.out) Eq.size;obtain⟨d0,d1,d2,d3,d4,df,-⟩:=Lb.out.c5;obtain⟨x0,-,-,-,-,-,-,xlt⟩:=BX6.out.c6;have df3:=df 3;clear Y Eq df)
     | (at_mapUpdate;refine wpList_mapUpdate_own _ rfl _ _ _ 161 rfl 3 4 nq underlying161 _ f.heap.size _ _ rfl (Mx.out.setCell (a:=⟨f.heap.size+1,3,none⟩) (by simp) _) (by unfold maxLen;omega) _ _ _ rfl rfl HK.out (.lit (.bool true)) [] (plainElem_bool underlying4 true) ?_;intro w7 Ki Jl))
    have Kk:=hid ((Jd.out.setCell (p:=⟨f.heap.size+1,3,none⟩) (by dsimp only;omega) (.slice OV (LK.length+1) oc2)).grown Jl (by rw[kz6];exact Jd.out.size) (λk hk=>by injection hk with hk;omega));have Me:=hid ((Lb.out.set_ 3 (.slice OV (LK.length+1) oc2)).grown Jl (by simp));have n7:=(bD Kl.out Ld).symm;have Lt:=hid (bp (au Kl.out n7 (.slice OV (LK.length+1) oc2)) Jl (.inr (bD Kl.out Ky).symm));have Lj:=gi P.out.x M.out;have Li:=gi P.out.s M.out;have La:f.heap.size<W3.heap.size:=by have:=Kw.out;omega
    have Ls:=hid ((Lr.out.set_ (p:=⟨f.heap.size+1,3,none⟩) u N (by omega) Ly (.slice OV (LK.length+1) oc2)).grown Jl Lj Li (.inr (bD P.out.t.1 La).symm) (λy hy=>.inr (bD (P.out.t.2 y hy) La).symm) (.inr (bD P.out.b (show f.heap.size<W5.heap.size by omega)).symm));have Jv:w8.heap.size<=w7.heap.size:=kz1 Lx (by have:=Jl.size;rw[kz6] at this;exact this);clear Jl Lj Li n7;go_wp2;go_roundw
    case rel =>
     refine⟨k+1,OV,oc2,by omega,by go_num,?_,?_,?_,Ls,Jv,Kk⟩
     .rw[Z.out,kqs];exact Me
     .rw[Z.out,kqs,kxf];exact Lt
     rw[Z.out,kqs];refine hid ?_;show w7.ownsMap _ _ _ _ (LK.length+1) (fd _ (LK.length+1));rw[Lu.out];exact Ki
    case measure=>simp[intOf];omega
   have Z:Hid (aK (l.take (k+1))=LK):=hid (by rw[U.out,if_neg Jo,kzr]);have e1:(xk==1)=false:=by rw[kqj];exact Jo
   have Jq:=hid (ON.out.alloc (.cells #[.int .i64 B,.int .i64 xs,.int .i64 xk,.int .i64 R,.bool Q,.int .u64 (F:Int)] 55));have Kn:=hid (G.out.alloc (.cells #[.int .i64 B,.int .i64 xs,.int .i64 xk,.int .i64 R,.bool Q,.int .u64 (F:Int)] 55));have Kq:=hid (M.out.alloc (.cells #[.int .i64 B,.int .i64 xs,.int .i64 xk,.int .i64 R,.bool Q,.int .u64 (F:Int)] 55));have Kg:=hid (P.out.alloc (.cells #[.int .i64 B,.int .i64 xs,.int .i64 xk,.int .i64 R,.bool Q,.int .u64 (F:Int)] 55));have o:=hid (HB.out.alloc hz (.cells #[.int .i64 B,.int .i64 xs,.int .i64 xk,.int .i64 R,.bool Q,.int .u64 (F:Int)] 55));have Ma:=hid (show w8.heap.size<=(wr.alloc (.cells #[.int .i64 B,.int .i64 xs,.int .i64 xk,.int .i64 R,.bool Q,.int .u64 (F:Int)] 55)).heap.size from aY Lo);subst Jw;clear U Ji Jo;go_wp2;go_roundw
   case rel=>exact⟨k+1,OB,oc,by omega,by go_num,by rw[Z.out];exact Kn,by rw[Z.out];exact Jq,by rw[Z.out];exact Kq,Kg,Ma.out,o⟩
   case measure=>simp[intOf];omega
  obtain rfl:k=l.length:=by omega
  rw[kzf] at G ON M;have HG:=hid G.out;obtain⟨g0,g1,g2,g3,g4,-,-⟩:=G.out.c5;go_wp2_with (first
   | ((with_reducible refine aH 163 (.tmp 7) ?_);refine kxc rfl _ _ rfl (f.heap.size+1) (by rfl) 163 _ (0,0) _ HG.out underlying163 (by rfl) tB ?_)
   | ((with_reducible refine aq 163 (.tmp 2) _ ?_);refine ai rfl _ _ _ rfl w.heap.size 163 #[.slice none 0 0,.slice none 0 0,.slice none 0 0,.slice none 0 0,.map none] #[.slice A ws.length c,.slice I L.length J,.slice (some ⟨T,0,none⟩) 16 16,.slice OB (aK l).length oc,.map (some f.heap.size)] (by rfl) (by rfl) P.out.x rfl Ja (by simp[Value.oneCell']) ?_;intro w9 d g;have m:=hid d;have j:=hid g;clear d g))
  refine kqr (v:=.tuple #[.agg #[.slice A ws.length c,.slice I L.length J,.slice (some ⟨T,0,none⟩) 16 16,.slice OB (aK l).length oc,.map (some f.heap.size)],.int .i64 0]) (ff results94 _ m.out rfl rfl rfl) rfl ⟨⟨0,_,rfl,kk9 _,λh=>absurd rfl h,λ_=>⟨t,l,?_⟩⟩,j.out.below HB.out (kqa _)⟩;have d:=j.out.2.2 w.heap.size (kqa _);have Jy:wr.grownBy w9 (some w.heap.size):=⟨d.os,d.tape,d.output,by rw[j.out.1];exact kqa _,λk hk Lz=>j.out.2.1 k (λe=>Lz (by rw[e]))⟩;have hS:=j.out.bx P.out.s (show T≠w.heap.size by omega);refine⟨HT.out,HL.out,Lw.out,Mu.out,Lv.out,Mt.out,Md.out,I,some ⟨T,0,none⟩,OB,J,16,oc,f.heap.size,L,rfl,?_,Lq.out,Rd.of_box hS hS.lt,?_,?_⟩
  .exact RdL.of_own (H:=W3.heap.size) ⟨bp P.out.t.1 Jy (.inr (bD P.out.t.1 Ln).symm),λy hy=>bp (P.out.t.2 y hy) Jy (.inr (bD (P.out.t.2 y hy) Ln).symm)⟩ rfl
  .exact Rd.of_own (bp ON.out Jy (.inr (bD ON.out (show w.heap.size<w8.heap.size by omega)).symm))
  exact M.out.kept Jy (gi P.out.x M.out).symm
theorem zn{t:Nat}{L:List Ty}(hty:jN ws t=true)(hL:L.map Ty.l=iV ws t 8):∀x∈L,cI x.l=0/\kSz x.l=bZ x.l.length/\x.l.length<=8:=by
 intro x h;have b:x.l∈iV ws t 8:=by rw[<-hL];exact kj4 h
 unfold iV at b;obtain⟨i,k,e⟩:=kzz.1 b;rw[kzn] at k;have a:=(kv ws t).1 hty i (by omega);unfold Et at a;rw[if_pos (by omega)] at a;have c:x.l=fc (wd ws (96+2*i)):=by rw[<-e];unfold bB;rw[if_pos a]
 obtain⟨j,g,-,-⟩:=Ba a;have d:x.l.length<=8:=by rw[c,fP];exact j
 have f:cI x.l=0:=jr d (by rw[c];exact g);exact⟨f,by unfold kSz;rw[if_pos f],d⟩
section
variable {A TA SA OA:Option Addr} {ws:List Nat} {L:List Ty} {l:List Bk} {c n tc tn sc sn oc mb:Nat} {w:World}
theorem Cy(hl:blocks ws 128=some l)(hm:(aK l).length<=1000000)(hO:RdB w w.heap.size OA (aK l)):
 Calls prog 100 #[.agg #[.slice A n c,.slice TA tn tc,.slice SA sn sc,.slice OA (aK l).length oc,.map (some mb)],.func (.func 95) #[.agg #[.slice A n c,.slice TA tn tc,.slice SA sn sc,.slice OA (aK l).length oc,.map (some mb)]] #[]] w λe w'=>e=.returned (.bool ((aK l).all λb=>!wrK ws T (aK l) 7 b))/\Below w.heap.size w w':=by
 refine jh 95 A TA SA OA (aK l) _ c n tc tn sc sn oc (aK l).length mb w rfl hm hO (λ_ _=>by kernel_rfl) (λk h W hb=>?_);obtain⟨a,z,g,f,d,e,-⟩:=iw hl (kqp h);rw[e,lU];have i:wrB ws T (aK l) a z g d f 7=(d||decide (0<f)):=by simp[wrB]
 rw[i];exact Cp A TA SA OA c n tc tn sc sn oc (aK l).length mb a z g f 1 d W
theorem Bl(hl:blocks ws 128=some l)(hm:(aK l).length<=1000000)(ht:L.length=tn)(hk:∀x∈L,cI x.l=0/\kSz x.l=bZ x.l.length/\x.l.length<=8)(hO:RdB w w.heap.size OA (aK l))(hL:RdL w w.heap.size TA L):
 Calls prog 100 #[.agg #[.slice A n c,.slice TA tn tc,.slice SA sn sc,.slice OA (aK l).length oc,.map (some mb)],.func (.func 96) #[.agg #[.slice A n c,.slice TA tn tc,.slice SA sn sc,.slice OA (aK l).length oc,.map (some mb)]] #[]] w λe w'=>e=.returned (.bool ((aK l).all λb=>!wrK ws (L.map Ty.l) (aK l) 8 b))/\Below w.heap.size w w':=by
 refine jh 96 A TA SA OA (aK l) _ c n tc tn sc sn oc (aK l).length mb w rfl hm hO (λ_ _=>by kernel_rfl) (λk h W g=>?_);obtain⟨a,z,d,i,f,e,-⟩:=iw hl (kqp h);rw[e,lU];have j:(!wrB ws (L.map Ty.l) (aK l) a z d f i 8)=(decide (d<L.length)&&bZ (((L.map Ty.l)[d]?).getD []).length==z):=by unfold wrB;rw[if_neg (by decide),if_pos rfl,kz2];cases decide (d<L.length)<;>simp[bne]
 rw[j];exact zj A TA SA OA L c n tc tn sc sn oc (aK l).length mb a z d i 1 f W ht hk (hL.up g g.size)
theorem pC{a z ty nx:Nat}{mk:Bool}(hT:L.map Ty.l=T)(h:wrK ws T O 8 ⟨(a:Int),(z:Int),1,(ty:Int),mk,nx⟩=false):∃h:ty<L.length,z=bZ L[ty].l.length/\(T[ty]?).getD []=L[ty].l:=by
 rw[lU] at h;unfold wrB at h;rw[if_neg (by decide),if_pos rfl,kzl,kvj,kq0,kqq,<-hT,kz2] at h;have e:(T[ty]?).getD []=(L[ty]'h.1).l:=by rw[<-hT];simp[h.1]
 refine⟨h.1,?_,e⟩;rw[<-e,<-hT];exact h.2.symm
theorem wL(hl:blocks ws 128=some l)(hm:(aK l).length<=1000000)(hn:ws.length=n)(hn2:n<=2048)(ht:L.length=tn)(hk:∀x∈L,cI x.l=0/\kSz x.l=bZ x.l.length/\x.l.length<=8)(h8:∀b∈aK l,wrK ws (L.map Ty.l) (aK l) 8 b=false)(hO:RdB w w.heap.size OA (aK l))(hL:RdL w w.heap.size TA L)(hR:RdW w w.heap.size A ws):
 Calls prog 100 #[.agg #[.slice A n c,.slice TA tn tc,.slice SA sn sc,.slice OA (aK l).length oc,.map (some mb)],.func (.func 97) #[.agg #[.slice A n c,.slice TA tn tc,.slice SA sn sc,.slice OA (aK l).length oc,.map (some mb)]] #[]] w λe w'=>e=.returned (.bool ((aK l).all λb=>!wrK ws (L.map Ty.l) (aK l) 9 b))/\Below w.heap.size w w':=by
 refine jh 97 A TA SA OA (aK l) _ c n tc tn sc sn oc (aK l).length mb w rfl hm hO (λ_ _=>by kernel_rfl) (λk h W g=>?_);obtain⟨a,z,i,j,m,e,-,haz,-⟩:=iw hl (kqp h);have d:=h8 _ (kqp h);rw[e] at d |-;obtain⟨f,o,p⟩:=pC rfl d;rw[lU];have q:wrB ws (L.map Ty.l) (aK l) a z i m j 9=(decide (L[i].l.length+2<z)&&wd ws (a+2+L[i].l.length) != 0):=by unfold wrB;rw[if_neg (by decide),if_neg (by decide),if_pos rfl,p]
 rw[q];exact vO A TA SA OA ws L c n tc tn sc sn oc (aK l).length mb a z i j 1 m W hn hn2 ht f (hk _ (kqp f)).2.2 o (by omega) (hR.up g g.size) (hL.up g g.size)
theorem u9(hl:blocks ws 128=some l)(hm:(aK l).length<=1000000)(hn:ws.length=n)(hn2:n<=2048)(ht:L.length=tn)(ho:∀x∈ws,x<18446744073709551616)(hk:∀x∈L,cI x.l=0/\kSz x.l=bZ x.l.length/\x.l.length<=8)(h8:∀b∈aK l,wrK ws (L.map Ty.l) (aK l) 8 b=false)(hO:RdB w w.heap.size OA (aK l))(hL:RdL w w.heap.size TA L)(hR:RdW w w.heap.size A ws):
 Calls prog 100 #[.agg #[.slice A n c,.slice TA tn tc,.slice SA sn sc,.slice OA (aK l).length oc,.map (some mb)],.func (.func 98) #[.agg #[.slice A n c,.slice TA tn tc,.slice SA sn sc,.slice OA (aK l).length oc,.map (some mb)]] #[]] w λe w'=>e=.returned (.bool ((aK l).all λb=>!wrK ws (L.map Ty.l) (aK l) 10 b))/\Below w.heap.size w w':=by
 refine jh 98 A TA SA OA (aK l) _ c n tc tn sc sn oc (aK l).length mb w rfl hm hO (λ_ _=>by kernel_rfl) (λk h W g=>?_);obtain⟨a,z,j,m,o,e,-,haz,-⟩:=iw hl (kqp h);have d:=h8 _ (kqp h);rw[e] at d |-;obtain⟨f,p,q⟩:=pC rfl d;rw[lU];have r:wrB ws (L.map Ty.l) (aK l) a z j o m 10=((List.range L[j].l.length).any λi=>wrF ws L[j].l (aK l) a 10 i):=by unfold wrB;rw[if_neg (by decide),if_neg (by decide),if_neg (by decide),q]
 rw[r];exact wD A TA SA OA ws L (aK l) c n tc tn sc sn oc (aK l).length mb a z j m 1 o W hn hn2 ht f (hk _ (kqp f)).2.2 p (by omega) (hR.up g g.size) (hL.up g g.size) ho
theorem Dc(hl:blocks ws 128=some l)(hm:(aK l).length<=1000000)(hn:ws.length=n)(hn2:n<=2048)(ht:L.length=tn)(ho:∀x∈ws,x<18446744073709551616)(hk:∀x∈L,cI x.l=0/\kSz x.l=bZ x.l.length/\x.l.length<=8)(h8:∀b∈aK l,wrK ws (L.map Ty.l) (aK l) 8 b=false)(hO:RdB w w.heap.size OA (aK l))(hL:RdL w w.heap.size TA L)(hR:RdW w w.heap.size A ws)(hM:w.ownsMap prog 3 (plainElem prog 4) mb (aK l).length (fd ((aK l).map Bk.at_) (aK l).length)):
 Calls prog 100 #[.agg #[.slice A n c,.slice TA tn tc,.slice SA sn sc,.slice OA (aK l).length oc,.map (some mb)],.func (.func 99) #[.agg #[.slice A n c,.slice TA tn tc,.slice SA sn sc,.slice OA (aK l).length oc,.map (some mb)]] #[]] w λe w'=>e=.returned (.bool ((aK l).all λb=>!wrK ws (L.map Ty.l) (aK l) 11 b))/\Below w.heap.size w w':=by
 refine jh 99 A TA SA OA (aK l) _ c n tc tn sc sn oc (aK l).length mb w rfl hm hO (λ_ _=>by kernel_rfl) (λk h W d=>?_);obtain⟨a,z,j,m,o,e,-,haz,-⟩:=iw hl (kqp h);have f:=h8 _ (kqp h);rw[e] at f |-;obtain⟨g,p,q⟩:=pC rfl f;rw[lU];have t:wrB ws (L.map Ty.l) (aK l) a z j o m 11=((List.range L[j].l.length).any λi=>wrF ws L[j].l (aK l) a 11 i):=by unfold wrB;rw[if_neg (by decide),if_neg (by decide),if_neg (by decide),q]
 rw[t];refine Dz A TA SA OA ws L (aK l) c n tc tn sc sn oc (aK l).length mb a z j m 1 o W hn hn2 ht g (hk _ (kqp g)).2.2 p (by omega) (hR.up d d.size) (hL.up d d.size) ho (λb d=>?_) (dL hM (d.block _ hM.lt));obtain⟨r,z',ty',nx',mk',s,-,haz',hz2,-⟩:=iw hl d;rw[s];show (r:Int)<n;omega
end
def yh (ws:List Nat) (e:Ending):Prop:=∃r:Int,e=.returned (.tuple #[.int .i64 r,.int .i64 (nu ws.length)])/\0<=r/\(ap (ws.length:Int)=true->(r=0↔lay ws=true))
def Ht (ws:List Nat) (T:List (List Nat)) (O:List Bk) (k:Nat):Prop:=∀r,7<=r->r<7+k->∀b∈O,wrK ws T O r b=false
theorem zu(h:Ht ws T O k)(h1:(O.all λb=>!wrK ws T O (7+k) b)=true):Ht ws T O (k+1):=λr d hr b c=>by
 rcases kq6 r (7+k) with a|a
 .exact h r d a b c
 .have:r=7+k:=by omega
  subst this;have:=kzo.1 h1 b c
  simpa using this
theorem Cf(hk:k<5)(h1:(O.all λb=>!wrK ws T O (7+k) b)=false):¬ ∀r,7<=r->r<12->∀b∈O,wrK ws T O r b=false:=λh=>by rw[kzo.2 λb a=>by rw[h (7+k) (by omega) (by omega) b a];rfl] at h1;cases h1
def mG (O:List Bk) (S:List Sl) (k:Nat):Prop:=∀i (h:i<S.length),i<k->pG O S[i]=true
theorem qp{S:List Sl}(hk:k<S.length)(h:mG O S k)(h1:pG O S[k]=true):mG O S (k+1):=λi b hlt=>by
 rcases kq6 i k with a|a
 .exact h i b a
 .have:i=k:=by omega
  subst this;exact h1
theorem vf(A:Option Addr)(ws:List Nat)(c n:Nat)(w:World)(hn:ws.length=n)(hm:n<=9223372036854775807)(hc:n<=c)(hr:RdW w w.heap.size A ws)(ho:∀x∈ws,x<18446744073709551616):
 Calls prog 51 #[.slice A n c] w λe w'=>yh ws e/\Below w.heap.size w w':=by
 subst hn;have Jb:=hid (aB A ws.length c w hm);cases hs:ap (ws.length:Int)
 .have HE:=hid (cn hs);have I:Hid (yh ws (.returned (.tuple #[.int .i64 0,.int .i64 8]))):=hid ⟨0,by rw[HE.out],kk9 _,λh=>by rw[hs] at h;cases h⟩;rw[HE.out] at Jb;clear hs hr ho hm hc;go_enter func51,ntmps51;go_wp2_with fail;refine Jb.out.mono ?_;rintro e w1 ⟨rfl,rfl⟩;go_wp2;go_ret2;exact⟨I.out,kqk _ _⟩
 have HE:=hid (bG hs);have N:=(ae _).1 hs;have Jv:=hid (z9 A ws c ws.length w rfl hs hc hr ho);have R:Hid (∀r:Int,0<r->lay ws=false->yh ws (.returned (.tuple #[.int .i64 r,.int .i64 0]))):=hid λr h h2=>⟨r,by rw[HE.out],by omega,λ_=>⟨λh3=>by omega,λh3=>by rw[h2] at h3;cases h3⟩⟩;have Jq:Hid (lay ws=true->yh ws (.returned (.tuple #[.int .i64 0,.int .i64 0]))):=hid λh=>⟨0,by rw[HE.out],kk9 _,λ_=>⟨λ_=>h,λ_=>rfl⟩⟩;rw[HE.out] at Jb;have HR:=hid hr;have Jy:=hid ho;have hlen:256<=ws.length/\ws.length<=2048:=by omega
 have hi5:(prog.info? 163).map (·.size)=some (#[.slice none 0 0,.slice none 0 0,.slice none 0 0,.slice none 0 0,.map none]:Array Value).size:=tB;unfold PtRes at Jv;clear hs hr ho hm hc N;go_enter func51,ntmps51;go_wp2_with fail;refine Jb.out.mono ?_;rintro e w1 ⟨rfl,rfl⟩;go_wp2_with fail;refine Jv.out.mono ?_;rintro e K ⟨⟨r,sv,rfl,Kl,U,J⟩,Ji⟩;have Jj:=hid Ji;have Eq:=Ji.size;clear Ji;by_cases h0:r=0
 .subst h0;obtain⟨t,l,P⟩:=J rfl;have PQ:=hid P;obtain⟨o,a,B,y,m,z,d,L,rfl,hL,Jg,hS,hO,hM⟩:=P.mem;have Jf:=hid (o8 P.ty P.bl);have HK:=hid (zn P.tys Jg);have Ke:=hid hL;have Kk:=hid hS;have Ko:=hid hO;have Kc:=hid hM;have Kd:=hid Jg;have Jc:(aK l).length<=1000000:=by have:=(cd (by omega) _ _ P.bl (by omega) (by omega) (by omega)).1;have:=kj8 (λb:Bk=>b.kind==1) l;unfold aK;omega
  have V:=hid Jc;have Ku:=hM.lt;clear U J P hL Jg hS hO hM Jc Kl;have Jm:((K.alloc (.cells #[.slice A ws.length c,.slice o L.length y,.slice a 16 m,.slice B (aK l).length z,.map (some d)] 163)).alloc (.cells #[.func (.func 95) #[.agg #[.slice A ws.length c,.slice o L.length y,.slice a 16 m,.slice B (aK l).length z,.map (some d)]] #[],.func (.func 96) #[.agg #[.slice A ws.length c,.slice o L.length y,.slice a 16 m,.slice B (aK l).length z,.map (some d)]] #[],.func (.func 97) #[.agg #[.slice A ws.length c,.slice o L.length y,.slice a 16 m,.slice B (aK l).length z,.map (some d)]] #[],.func (.func 98) #[.agg #[.slice A ws.length c,.slice o L.length y,.slice a 16 m,.slice B (aK l).length z,.map (some d)]] #[],.func (.func 99) #[.agg #[.slice A ws.length c,.slice o L.length y,.slice a 16 m,.slice B (aK l).length z,.map (some d)]] #[]] 166)).heap.size=K.heap.size+1+1:=by simp
  have b24:=((kqk K.heap.size K).alloc (kqa _) (.cells #[.slice A ws.length c,.slice o L.length y,.slice a 16 m,.slice B (aK l).length z,.map (some d)] 163)).alloc (by simp) (.cells #[.func (.func 95) #[.agg #[.slice A ws.length c,.slice o L.length y,.slice a 16 m,.slice B (aK l).length z,.map (some d)]] #[],.func (.func 96) #[.agg #[.slice A ws.length c,.slice o L.length y,.slice a 16 m,.slice B (aK l).length z,.map (some d)]] #[],.func (.func 97) #[.agg #[.slice A ws.length c,.slice o L.length y,.slice a 16 m,.slice B (aK l).length z,.map (some d)]] #[],.func (.func 98) #[.agg #[.slice A ws.length c,.slice o L.length y,.slice a 16 m,.slice B (aK l).length z,.map (some d)]] #[],.func (.func 99) #[.agg #[.slice A ws.length c,.slice o L.length y,.slice a 16 m,.slice B (aK l).length z,.map (some d)]] #[]] 166)
  have BX4:=(Bx.new K 163 #[.slice A ws.length c,.slice o L.length y,.slice a 16 m,.slice B (aK l).length z,.map (some d)]).alloc (.cells #[.func (.func 95) #[.agg #[.slice A ws.length c,.slice o L.length y,.slice a 16 m,.slice B (aK l).length z,.map (some d)]] #[],.func (.func 96) #[.agg #[.slice A ws.length c,.slice o L.length y,.slice a 16 m,.slice B (aK l).length z,.map (some d)]] #[],.func (.func 97) #[.agg #[.slice A ws.length c,.slice o L.length y,.slice a 16 m,.slice B (aK l).length z,.map (some d)]] #[],.func (.func 98) #[.agg #[.slice A ws.length c,.slice o L.length y,.slice a 16 m,.slice B (aK l).length z,.map (some d)]] #[],.func (.func 99) #[.agg #[.slice A ws.length c,.slice o L.length y,.slice a 16 m,.slice B (aK l).length z,.map (some d)]] #[]] 166)
  have BF4:=Bx.new (K.alloc (.cells #[.slice A ws.length c,.slice o L.length y,.slice a 16 m,.slice B (aK l).length z,.map (some d)] 163)) 166 #[.func (.func 95) #[.agg #[.slice A ws.length c,.slice o L.length y,.slice a 16 m,.slice B (aK l).length z,.map (some d)]] #[],.func (.func 96) #[.agg #[.slice A ws.length c,.slice o L.length y,.slice a 16 m,.slice B (aK l).length z,.map (some d)]] #[],.func (.func 97) #[.agg #[.slice A ws.length c,.slice o L.length y,.slice a 16 m,.slice B (aK l).length z,.map (some d)]] #[],.func (.func 98) #[.agg #[.slice A ws.length c,.slice o L.length y,.slice a 16 m,.slice B (aK l).length z,.map (some d)]] #[],.func (.func 99) #[.agg #[.slice A ws.length c,.slice o L.length y,.slice a 16 m,.slice B (aK l).length z,.map (some d)]] #[]];rw[kqm] at BF4;have C:=hid (λW (N:Below K.heap.size K W)=>(And.intro (Ko.out.up N N.size) (And.intro (Ke.out.up N N.size) (And.intro (Kk.out.up N N.size) (dL Kc.out (N.block _ Ku))))));go_wp2_with fail
  obtain⟨M,Jr⟩:=xq ((K.alloc (.cells #[.slice A ws.length c,.slice o L.length y,.slice a 16 m,.slice B (aK l).length z,.map (some d)] 163)).alloc (.cells #[.func (.func 95) #[.agg #[.slice A ws.length c,.slice o L.length y,.slice a 16 m,.slice B (aK l).length z,.map (some d)]] #[],.func (.func 96) #[.agg #[.slice A ws.length c,.slice o L.length y,.slice a 16 m,.slice B (aK l).length z,.map (some d)]] #[],.func (.func 97) #[.agg #[.slice A ws.length c,.slice o L.length y,.slice a 16 m,.slice B (aK l).length z,.map (some d)]] #[],.func (.func 98) #[.agg #[.slice A ws.length c,.slice o L.length y,.slice a 16 m,.slice B (aK l).length z,.map (some d)]] #[],.func (.func 99) #[.agg #[.slice A ws.length c,.slice o L.length y,.slice a 16 m,.slice B (aK l).length z,.map (some d)]] #[]] 166));rw[Jr] at Jm b24 BX4 BF4 |-;have E:=hid b24;have Q:=hid (Jj.out.trans (b24.mono Eq));have BX:=hid BX4;have BF:=hid BF4;have HS4:=hid Jm
  have Kq:Hid (∀k,k<5->Ht ws (iV ws t 8) (aK l) k->∃f,(#[.func (.func 95) #[.agg #[.slice A ws.length c,.slice o L.length y,.slice a 16 m,.slice B (aK l).length z,.map (some d)]] #[],.func (.func 96) #[.agg #[.slice A ws.length c,.slice o L.length y,.slice a 16 m,.slice B (aK l).length z,.map (some d)]] #[],.func (.func 97) #[.agg #[.slice A ws.length c,.slice o L.length y,.slice a 16 m,.slice B (aK l).length z,.map (some d)]] #[],.func (.func 98) #[.agg #[.slice A ws.length c,.slice o L.length y,.slice a 16 m,.slice B (aK l).length z,.map (some d)]] #[],.func (.func 99) #[.agg #[.slice A ws.length c,.slice o L.length y,.slice a 16 m,.slice B (aK l).length z,.map (some d)]] #[]]:Array Value)[k]? = some f/\∀W,Below M.heap.size M W->Calls prog 100 #[.agg #[.slice A ws.length c,.slice o L.length y,.slice a 16 m,.slice B (aK l).length z,.map (some d)],f] W λe w'=>e=.returned (.bool ((aK l).all λb=>!wrK ws (iV ws t 8) (aK l) (7+k) b))/\Below W.heap.size W w'):=hid λk hk Ju=>by
   have hP:=PQ.out;have F:∀W,Below M.heap.size M W->Below K.heap.size K W:=λW D=>E.out.trans (D.mono E.out.size);rw[<-Kd.out] at Ju |-;have Jk:=λW (D:Below M.heap.size M W)=>HR.out.up (Jj.out.trans ((F W D).mono Eq)) (kz1 Eq (F W D).size);have h8:2<=k->∀b∈aK l,wrK ws (L.map Ty.l) (aK l) 8 b=false:=λh b N=>Ju 8 (by omega) (by omega) b N;rcases (show k=0\/k=1\/k=2\/k=3\/k=4 by omega) with rfl|rfl|rfl|rfl|rfl
   .exact ⟨_,rfl,λW D=>Cy hP.bl V.out (C.out W (F W D)).1⟩
   .exact ⟨_,rfl,λW D=>Bl hP.bl V.out rfl HK.out (C.out W (F W D)).1 (C.out W (F W D)).2.1⟩
   .exact ⟨_,rfl,λW D=>wL hP.bl V.out rfl (by omega) rfl HK.out (h8 (by omega)) (C.out W (F W D)).1 (C.out W (F W D)).2.1 (Jk W D)⟩
   .exact ⟨_,rfl,λW D=>u9 hP.bl V.out rfl (by omega) rfl Jy.out HK.out (h8 (by omega)) (C.out W (F W D)).1 (C.out W (F W D)).2.1 (Jk W D)⟩
   exact⟨_,rfl,λW D=>Dc hP.bl V.out rfl (by omega) rfl Jy.out HK.out (h8 (by omega)) (C.out W (F W D)).1 (C.out W (F W D)).2.1 (Jk W D) (C.out W (F W D)).2.2.2⟩
  have Kg:Hid (Ht ws (iV ws t 8) (aK l) 0):=hid λr h1 h2=>by omega
  have Kn:=hid (λk h h1=>zu (ws:=ws) (T:=iV ws t 8) (O:=aK l) (k:=k) h h1);have Kv:=hid (λk h h1=>Cf (ws:=ws) (T:=iV ws t 8) (O:=aK l) (k:=k) h h1);have Kr:K.heap.size+1<M.heap.size:=by omega
  have Jh:K.heap.size<M.heap.size:=by omega
  clear Jr Jm b24 BX4 BF4;go_loopw [36] (λi wr=>∃k:Nat,k<=5/\i=.int .i64 k/\Hid (Ht ws (iV ws t 8) (aK l) k)/\Below M.heap.size M wr) (λi _=>5-(intOf i).toNat)
  case atStart=>exact⟨0,by omega,rfl,Kg,kqk _ _⟩
  obtain⟨k,hk,rfl,HT,G⟩:=hrel;by_cases H:k<5
  .obtain ⟨f,hf,hC⟩:=Kq.out k H HT.out;have hc0:=(G.cell (p:=⟨K.heap.size+1,k,none⟩) Kr).trans ((BF.out.cell k).trans hf);have HC:=hid (hC wr G);have Jw:=hid (Kn.out k HT.out);have Jz:=hid (Kv.out k H);obtain⟨q,hq⟩:=xq (((aK l).all λb=>!wrK ws (iV ws t 8) (aK l) (7+k) b));rw[hq] at HC Jw Jz;obtain⟨q0,q1,q2,q3,q4,-,-⟩:=(BX.out.up G Jh).c5;have Ja:=hid G;have hz:=G.size;have hki:(k:Int)<5:=by omega
   have hk0:(0:Int)<=(k:Int):=by omega
   clear hf hC hq G;cases q
   .have I:=hid (R.out (7+k) (by omega) (by
     cases hq:lay ws with
     | false=>rfl
     | true=>exact absurd (Jf.out.1 hq).2.2.2.2.2.1 (Jz.out rfl)))
    go_wp2_with fail;refine HC.out.mono ?_;rintro e w5 ⟨rfl,Y⟩;have Jo:=hid (Q.out.trans ((Ja.out.trans (Y.mono hz)).mono Q.out.size));clear Y;go_wp2;go_ret2;exact⟨I.out,Jo.out⟩
   have I:=hid (Jw.out rfl);go_wp2_with fail;refine HC.out.mono ?_;rintro e w5 ⟨rfl,Y⟩;have Jo:=hid (Ja.out.trans (Y.mono hz));clear Y;go_wp2;go_roundw
   case rel=>exact⟨k+1,by omega,by go_num,I,Jo.out⟩
   case measure=>simp[intOf];omega
  have Km:=hid (show Ht ws (iV ws t 8) (aK l) 5 from λr h1 h2 b N=>HT.out r h1 (by omega) b N);have Jd:decide ((k:Int)<5)=false:=by rw[kqh];omega
  have Z:decide (k<5)=false:=by rw[kqh];exact H
  obtain⟨-,-,q2,-,-,-,-⟩:=(BX.out.up G Jh).c5;have Ja:=hid G;clear H hk HT G;go_wp2_with fail;have Kh:Hid (mG (aK l) (slL ws) 0):=hid λi h h1=>by omega
  have Ki:=hid (λk hk h h1=>qp (O:=aK l) (S:=slL ws) (k:=k) hk h h1);have Ka:=hid (gH ws);have Kt:Hid (mG (aK l) (slL ws) 16->lay ws=true):=hid λh=>Jf.out.2 ⟨PQ.out.z1,PQ.out.z2,PQ.out.tys,PQ.out.sls,PQ.out.adj,Km.out,λs hs=>by
   obtain⟨i,hi,rfl⟩:=kq2 hs;exact h i hi (by rw[Ka.out] at hi;exact hi)⟩
  have Kp:Hid (∀k (hk:k<(slL ws).length),pG (aK l) (slL ws)[k]=false->lay ws=false):=hid λk hk h=>by
   cases hq:lay ws with
   | false=>rfl
   | true=>rw[(Jf.out.1 hq).2.2.2.2.2.2 _ (kqp hk)] at h;cases h
  have Kf:Hid (∀k (hk:k<(slL ws).length),∃g v:Nat,(slL ws)[k]=⟨(g:Int),(slL ws)[k].used,(v:Int)⟩/\v<4294967296):=hid λk hk=>by
   rw[sC ws hk];exact⟨_,_,rfl,kz4 _ (by decide)⟩
  clear Jd Z q2;go_loopw [51] (λi wr=>∃k:Nat,k<=16/\i=.int .i64 k/\Hid (mG (aK l) (slL ws) k)/\Below M.heap.size M wr) (λi _=>16-(intOf i).toNat)
  case atStart=>exact⟨0,by omega,rfl,Kh,Ja.out⟩
  obtain⟨j,hj,rfl,HT,G⟩:=hrel;by_cases H:j<16
  .have X:j<(slL ws).length:=by rw[Ka.out];exact H
   obtain⟨bS,oS,rfl,hbS,p0,p1,p2⟩:=RdS.at_ (show RdS wr wr.heap.size a (slL ws) from (C.out wr (E.out.trans (G.mono E.out.size))).2.2.1) X;obtain⟨g,v,hx,hv⟩:=Kf.out j X;have Jp:=hid (Ki.out j X HT.out);have Kb:=hid (Kp.out j X);obtain⟨x,Jt⟩:=xq ((slL ws)[j]);rw[Jt] at p0 p1 p2 hx Jp Kb;obtain⟨u,hu⟩:=xq x.used;rw[hu] at p1 hx;subst hx;dsimp only at p0 p2;have hjj:(j:Int)<16:=by omega
   have hj0:(0:Int)<=(j:Int):=by omega
   obtain⟨-,-,-,-,q4,-,-⟩:=(BX.out.up G Jh).c5;have hgw:K.heap.size<wr.heap.size:=by have:=G.size;omega
   have hz:=G.size;have Jl:=hid (G.alloc hz (.cells #[.int .i64 (g:Int),.bool u,.int .i64 (v:Int)] 52));have Kj:=hid ((C.out wr (E.out.trans (G.mono E.out.size))).2.2.2.alloc (.cells #[.int .i64 (g:Int),.bool u,.int .i64 (v:Int)] 52));clear Jt hu X G;cases u
   .have I:=hid (Jp.out rfl);go_wp2;go_roundw
    case rel=>exact⟨j+1,by omega,by go_num,I,Jl.out⟩
    case measure=>simp[intOf];omega
   have Js:(Lit.int .i64 (v:Int)).wf=true:=by simp[Lit.wf,IntKind.min,IntKind.max,IntKind.signed,IntKind.bits];omega
   have Ks:=iu Kj.out nq underlying161 underlying4 (mp _) (keyOf_int_mk (P:=prog) underlying3 Js) (c:=th (aK l) v) (by rw[mQ,tH]);have Je:Hid (pG (aK l) ⟨(g:Int),true,(v:Int)⟩=th (aK l) v):=hid (by unfold pG;simp);obtain⟨q,hq⟩:=xq (th (aK l) v);rw[hq] at Ks Je;clear Js hq hv;cases q
   .have I:=hid (R.out 12 (by decide) (Kb.out Je.out));go_wp2;go_ret2;exact⟨I.out,Q.out.trans (Jl.out.mono Q.out.size)⟩
   have I:=hid (Jp.out Je.out);go_wp2;go_roundw
   case rel=>exact⟨j+1,by omega,by go_num,I,Jl.out⟩
   case measure=>simp[intOf];omega
  have Jd:decide ((j:Int)<16)=false:=by rw[kqh];omega
  have Z:decide (j<16)=false:=by rw[kqh];exact H
  have I:=hid (Jq.out (Kt.out (by have:=HT.out;rwa [show j=16 by omega] at this)));clear H hj HT;go_wp2;go_ret2;exact⟨I.out,Q.out.trans (G.mono Q.out.size)⟩
 obtain⟨hl,rfl⟩:=U h0;have I:=hid (R.out r (by omega) hl);have e1:(r != 0)=true:=by rw[kqu];exact h0
 clear U J;go_wp2;go_ret2;exact⟨I.out,Jj.out.alloc Eq _⟩
theorem y6(A:Option Addr)(ws:List Nat)(c n:Nat)(w:World)(hn:ws.length=n)(hm:n<=9223372036854775807)(hc:n<=c)(hr:RdW w w.heap.size A ws)(ho:∀x∈ws,x<18446744073709551616):
 Calls prog 16 #[.slice A n c] w λe w'=>e=.returned (.int .i64 (bi ws))/\Below w.heap.size w w':=by
 subst hn;have f:=hid (vf A ws c ws.length w rfl hm hc hr ho);unfold yh at f;clear hr ho hc hm;cases d:ap (ws.length:Int)
 .have g:Hid (bi ws=8):=hid (by unfold bi;rw[d];rfl);rw[cn d] at f;clear d;go_enter func16,ntmps16;go_wp2_with fail;refine f.out.mono ?_;rintro e o ⟨⟨r,rfl,-,-⟩,b⟩;go_wp2;go_ret;exact⟨by rw[g.out];rfl,b⟩
 have g:Hid (bi ws=if lay ws=true then 0 else 50):=hid (by unfold bi;rw[d];rfl);rw[bG d] at f;have k:=hid d;clear d;go_enter func16,ntmps16;go_wp2_with fail;refine f.out.mono ?_;rintro e o ⟨⟨r,rfl,m,j⟩,b⟩;have i:=hid (j k.out);clear j;by_cases a:r=0
 .have h:=hid (i.out.1 a);subst a;go_wp2;go_ret;exact⟨by rw[g.out,h.out];rfl,b⟩
 have h:Hid (lay ws=false):=hid (by
  cases l:lay ws with
  | false=>rfl
  | true=>exact absurd (i.out.2 l) a)
 have d1:decide ((0:Int)<r)=true:=by rw[kq0];omega
 clear a m;go_wp2;go_ret;exact⟨by rw[g.out,h.out];rfl,b⟩
end Go.Proofs.YtpcajamacpbjcaaGreat
