/- Texts laid together: LyE LyF LyG LyH. -/
import Derived.Test.YtpcajamacpbjcaaGreatZKLy1
import Derived.Test.YtpcajamacpbjcaaGreatZKCp2
import Derived.Laws.EntriesVeiled
set_option maxHeartbeats 16000000
set_option maxRecDepth 100000
set_option linter.all false
namespace Go.Proofs.YtpcajamacpbjcaaGreat
open Lib (hid)
open Go.RowKit Go.Maps
variable {T:List (List Nat)}{O:List Bk}{ws:List Nat}{k:Nat}
open Go.Proofs.Tryz
theorem jI(f:FuncId)(A TA SA OA:Option Addr)(O:List Bk)(p:Bk->Bool)(c n tc tn sc sn oc on mb:Nat)(w:World)(ho:O.length=on)(hm:on<=1000000)(hO:RdB w w.heap.size OA O)(hcf:∀args W,(callFunc f args).run prog W=.ok (.enter f args) W)(HF:∀k (h:k<O.length) W,Below w.heap.size w W->Calls prog f #[.agg #[.slice A n c,.slice TA tn tc,.slice SA sn sc,.slice OA on oc,.map (some mb)],O[k].val] W λe w'=>e=.returned (.bool (p O[k]))/\Below W.heap.size W w'):
 Calls prog 100 #[.agg #[.slice A n c,.slice TA tn tc,.slice SA sn sc,.slice OA on oc,.map (some mb)],.func (.func f) #[.agg #[.slice A n c,.slice TA tn tc,.slice SA sn sc,.slice OA on oc,.map (some mb)]] #[]] w λe w'=>e=.returned (.bool (O.all p))/\Below w.heap.size w w':=by
 subst ho;have G:=hid (Bx.new w 163 #[.slice A n c,.slice TA tn tc,.slice SA sn sc,.slice OA O.length oc,.map (some mb)]);have L:=hid ((kqk w.heap.size w).alloc (kqa _) (.cells #[.slice A n c,.slice TA tn tc,.slice SA sn sc,.slice OA O.length oc,.map (some mb)] 163));have HR:=hid hO;have F:=hid HF;have v:=hid hcf;have X:Hid ((∀j (h:j<O.length),p O[j]=true)->O.all p=true):=hid λh=>kzu.2 λx z=>by
  obtain⟨j,l,rfl⟩:=kqz z;exact h j l
 have R:Hid (∀j (h:j<O.length),p O[j]=false->O.all p=false):=hid λj l h=>by
  cases y:O.all p with
  | false=>rfl
  | true=>rw[kzu.1 y _ (kqq l)] at h;cases h
 obtain⟨D,s⟩:=xq (w.alloc (.cells #[.slice A n c,.slice TA tn tc,.slice SA sn sc,.slice OA O.length oc,.map (some mb)] 163));have C:=hid (show Below w.heap.size w D by rw[<-s];exact L.out);rw[s] at G;obtain⟨q0,q1,q2,q3,q4,-,-⟩:=G.out.c5;clear hO HF G L hcf;go_enter func100,ntmps100;go_wp2_with fail;clear s;go_loopw [10] (λi wr=>∃k:Nat,k<=O.length/\i=.int .i64 k/\Hid (∀j (h:j<O.length),j<k->p O[j]=true)/\Below w.heap.size w wr) (λi _=>O.length-(intOf i).toNat)
 case atStart=>exact⟨0,kqy _,rfl,hid λj _ h=>absurd h (by omega),C.out⟩
 obtain⟨k,T,rfl,H,B⟩:=hrel;have hz:=B.size;by_cases d:k<O.length
 .obtain ⟨b,off,rfl,U,K,N,M,I,J,Q⟩:=RdB.at_ (Rd.below HR.out B) d;have t:=hid (F.out k d);have m:Hid (p O[k]=true->∀j (h:j<O.length),j<k+1->p O[j]=true):=hid λS j l h=>by
   rcases kq6 j k with P|P
   .exact H.out j l P
   have:j=k:=by omega
   subst this;exact S
  have o:=hid (R.out k d);obtain⟨x,z⟩:=xq (O[k]);rw[z] at K N M I J Q t m o;obtain⟨q,y⟩:=xq (p x);rw[y] at t m o;obtain⟨xa,xs,Z,xt,V,xn⟩:=x;dsimp only[Bk.val] at K N M I J Q t;have hki:(k:Int)<(O.length:Int):=by omega
  have hk0:(0:Int)<=(k:Int):=by omega
  have a:=hid (B.alloc hz (.cells #[.int .i64 xa,.int .i64 xs,.int .i64 Z,.int .i64 xt,.bool V,.int .u64 (xn:Int)] 55));clear z y U;cases q
  .have u:=hid (o.out rfl);go_wp2_with fail;rw[v.out];simp only[Oper.upon];refine (t.out _ a.out).mono ?_;rintro e Y ⟨rfl,g⟩;have r:=hid (a.out.trans (g.mono a.out.size));clear g;go_wp2;go_ret;exact⟨by rw[u.out];rfl,r.out⟩
  have u:=hid (m.out rfl);go_wp2_with fail;rw[v.out];simp only[Oper.upon];refine (t.out _ a.out).mono ?_;rintro e Y ⟨rfl,g⟩;have r:=hid (a.out.trans (g.mono a.out.size));clear g;go_wp2;go_roundw
  case rel=>exact⟨k+1,by omega,by go_num,u,r.out⟩
  case measure=>simp[intOf];omega
 have E:k=O.length:=by omega
 have u:=hid (X.out λj l=>H.out j l (by omega));have hend:decide ((k:Int)<(O.length:Int))=false:=by rw[kqc];omega
 have hendn:decide (k<O.length)=false:=by rw[kqc];exact d
 clear E d T;go_wp2;go_ret;exact⟨by rw[u.out];rfl,B⟩
theorem uC:(prog.info? 163).map (·.size)=some 5:=by kernel_rfl
theorem zeroSg(w:World):(zeroValue 163).run prog w=.ok (.agg #[.slice none 0 0,.slice none 0 0,.slice none 0 0,.slice none 0 0,.map none]) w:=by kernel_rfl
theorem fA{fn:Func}{p q:Tmp}(h:fn.results=#[.cell p 163,.tmp q])(tmps:Array Value){W:World}{g:Nat}{t:TypeId}{cs:Array Value}{u:Value}(hb:Bx W g t cs)(hs:cs.size=5)(hp:tmps.getD p undef=.pointer (some ⟨g,0,none⟩))(hq:tmps.getD q undef=u):
 (results fn tmps).run prog W=.ok (.tuple #[.agg cs,u]) W:=by
 have b:tmps[p]?.getD undef=.pointer (some ⟨g,0,none⟩):=by simpa using hp
 have a:tmps[q]?.getD undef=u:=by simpa using hq
 have c:(prog.info? 163).map (·.size)=some cs.size:=by rw[hs];exact uC
 have d:=run_loadVar_row W g t 163 cs (0,0) _ hb underlying163 rfl c;simp[results,h,b,a,asAddr,d]
structure PtOk (ws:List Nat) (A:Option Addr) (n c:Nat) (w':World) (sv:Array Value) (t:Nat) (l:List Bk):Prop where
 ty:tyN ws=some t
 bl:blocks ws 128=some l
 z1:fi ws 16=true
 z2:fi ws 24=true
 tys:ib ws t=true
 sls:slsOk ws=true
 adj:kk l=true
 mem:∃(TA SA OA:Option Addr) (tc sc oc mb:Nat) (L:List Ty),sv=#[.slice A n c,.slice TA L.length tc,.slice SA 16 sc,.slice OA (aM l).length oc,.map (some mb)]/\RdL w' w'.heap.size TA L/\L.map Ty.l=gJ ws t 8/\RdS w' w'.heap.size SA (slL ws)/\RdB w' w'.heap.size OA (aM l)/\w'.ownsMap prog 3 (plainElem prog 4) mb (aM l).length (fk ((aM l).map Bk.at_) (aM l).length)
def PtRes (ws:List Nat) (A:Option Addr) (n c:Nat) (e:Ending) (w':World):Prop:=∃(r:Int) (sv:Array Value),e=.returned (.tuple #[.agg sv,.int .i64 r])/\0<=r/\(r≠0->lay ws=false/\sv=#[.slice none 0 0,.slice none 0 0,.slice none 0 0,.slice none 0 0,.map none])/\(r=0->∃t l,PtOk ws A n c w' sv t l)
def F8 (H:Nat) (ws:List Nat) (e:Ending) (w':World):Prop:=(dI ws=0->∃g,e=.returned (.tuple #[.slice (some ⟨g,0,none⟩) 16 16,.int .i64 (dI ws)])/\H<=g/\Bx w' g 118 ((slL ws).flatMap Sl.cells).toArray)/\(dI ws≠0->e=.returned (.tuple #[.slice none 0 0,.int .i64 (dI ws)]))
theorem Jv(A:Option Addr)(ws:List Nat)(c n:Nat)(w:World)(hn:ws.length=n)(hm:n<=9223372036854775807)(t:RdW w w.heap.size A ws)(ho:∀x∈ws,x<18446744073709551616):
 Calls prog 25 #[.slice A n c] w λe w'=>F8 w.heap.size ws e w'/\Below w.heap.size w w':=by
 have k:=hid (zv A ws c n w hn hm t ho);clear t ho hn hm;have q:=gh;by_cases g:dI ws=0
 .have b:fd ws=slL ws:=by simp[fd,g]
  have H:=hid (And.intro g b);have I:=fg ws;rw[g,Jf g] at k;have d:(iq (slL ws)).size=48:=by rw[iw,fg]
  obtain⟨l,s⟩:=xq (slL ws);have F:=hid s;rw[s] at d k I H;have B:Hid (iq l=(l.flatMap Sl.cells).toArray):=hid rfl;have K:=hid (kK l);obtain⟨cs,y⟩:=xq (iq l);rw[y] at k d B K;have p:(prog.info? 118).map (·.size)=some cs.size:=by rw[d];exact ks
  clear g b s y I q;go_enter func25,ntmps25;go_wp2_with fail;refine k.out.mono ?_;rintro e u ⟨rfl,a⟩;have E:=nL;have G:cs.size=b8.size:=by rw[d,gh]
  have v:=Bx.new u 118 b8;have D:=hid v;have m:=hid (a.alloc a.size (.cells b8 118));have j:=a.size;clear v a;go_wp2_with (first
   | ((with_reducible refine ar 118 (.tmp 4) _ ?_);refine am rfl _ _ _ rfl u.heap.size 118 b8 cs (by rfl) (by rfl) D.out G p K.out ?_;intro M f i;have C:=hid f;have o:=hid (i.below m.out j);clear f i))
  go_ret2;refine⟨⟨λ_=>⟨u.heap.size,by rw[H.out.1];rfl,j,?_⟩,λh=>absurd H.out.1 h⟩,o.out⟩;have:=C.out;rw[B.out] at this;rw[F.out];exact this
 have b:fd ws=[]:=by simp[fd,g]
 rw[EJ g] at k;obtain⟨r,t⟩:=xq (dI ws);have J:=hid t;rw[t] at k g;have L:=hid g;have hrn:(r != 0)=true:=by rw[kqv];exact g
 have j:=hid lO;have p:(prog.info? 118).map (·.size)=some b8.size:=by rw[q];exact ks
 clear g b t q;go_enter func25,ntmps25;go_wp2_with fail;refine k.out.mono ?_;rintro e u ⟨rfl,a⟩;have E:=nL;have v:=Bx.new u 118 b8;have D:=hid v;have m:=hid (a.alloc a.size (.cells b8 118));have z:=a.size;clear v a;go_wp2_with (first
  | ((with_reducible refine ar 118 (.tmp 4) _ ?_);refine am rfl _ _ _ rfl u.heap.size 118 b8 b8 (by rfl) (by rfl) D.out rfl p j.out ?_;intro M f i;have C:=hid f;have o:=hid (i.below m.out z);clear f i))
 go_ret2;exact⟨⟨λh=>absurd (J.out.symm.trans h) L.out,λ_=>by rw[J.out];rfl⟩,o.out⟩
structure PtS (wr:World) (H0 H3 H7 gs:Nat) (ws:List Nat) (TB AW:Option Addr) (td cW:Nat) (L:List Ty) (l:List Bk):Prop where
 x:Bx wr H0 163 #[.slice none 0 0,.slice none 0 0,.slice none 0 0,.slice none 0 0,.map none]
 t:uU wr H3 (.slice TB L.length td) L
 s:Bx wr gs 118 ((slL ws).flatMap Sl.cells).toArray
 b:wr.ownsRow H7 55 6 (.slice AW l.length cW) l.length (l.flatMap Bk.cells)
section
variable {wr wr':World} {H0 H3 H7 gs:Nat} {ws:List Nat} {TB AW:Option Addr} {td cW:Nat} {L:List Ty} {l:List Bk}
theorem PtS.alloc(h:PtS wr H0 H3 H7 gs ws TB AW td cW L l)(o:Obj):PtS (wr.alloc o) H0 H3 H7 gs ws TB AW td cW L l:=
 ⟨h.x.alloc o,⟨h.t.1.alloc o,λy a=>(h.t.2 y a).alloc o⟩,h.s.alloc o,h.b.alloc o⟩
theorem PtS.set_(h:PtS wr H0 H3 H7 gs ws TB AW td cW L l){p:Addr}(h0:H0≠p.block)(h3:p.block<H3)(h37:H3<=H7)(hg:H7<=gs)(u:Value):PtS (wr.setCell p u) H0 H3 H7 gs ws TB AW td cW L l:=
 ⟨h.x.far h0 u,⟨av h.t.1 (bH h.t.1 h3).symm u,λy a=>av (h.t.2 y a) (bH (h.t.2 y a) h3).symm u⟩,h.s.far (by omega) u,av h.b (bH h.b (by omega)).symm u⟩
theorem PtS.grown(h:PtS wr H0 H3 H7 gs ws TB AW td cW L l){row:Option Nat}(hg:wr.grownBy wr' row)(h0:some H0≠row)(hgs:some gs≠row)(h1:(Value.slice TB L.length td).ownBlock=none\/(Value.slice TB L.length td).ownBlock≠row)(h2:∀y∈L,(Value.slice y.A y.l.length y.c).ownBlock=none\/(Value.slice y.A y.l.length y.c).ownBlock≠row)(h3:(Value.slice AW l.length cW).ownBlock=none\/(Value.slice AW l.length cW).ownBlock≠row):PtS wr' H0 H3 H7 gs ws TB AW td cW L l:=
 ⟨h.x.grown hg h0,⟨bC h.t.1 hg h1,λy a=>bC (h.t.2 y a) hg (h2 y a)⟩,h.s.grown hg hgs,bC h.b hg h3⟩
def ptBk (B H0 gs:Nat) (TB AW:Option Addr) (td cW:Nat) (L:List Ty) (l:List Bk):Prop:=∀r,B<=r->H0≠r/\gs≠r/\(Value.slice TB L.length td).ownBlock≠some r/\(∀y∈L,(Value.slice y.A y.l.length y.c).ownBlock≠some r)/\(Value.slice AW l.length cW).ownBlock≠some r
theorem PtS.bk(h:PtS wr H0 H3 H7 gs ws TB AW td cW L l):ptBk wr.heap.size H0 gs TB AW td cW L l:=λr hr=>by
 refine⟨by have:=h.x.lt;omega,by have:=h.s.lt;omega,λe=>?_,λy a e=>?_,λe=>?_⟩
 .have:=(h.t.1.lt r e).2;omega
 .have:=((h.t.2 y a).lt r e).2;omega
 .have:=(h.b.lt r e).2;omega
theorem PtS.late(h:PtS wr H0 H3 H7 gs ws TB AW td cW L l){B:Nat}(hk:ptBk B H0 gs TB AW td cW L l){n:Nat}{v:Value}{xs:List Value}{e:TypeId}{sz:Nat}{wa:World}(hown:wa.ownsRow B e sz v n xs)(hg:wr.grownBy wr' v.ownBlock):PtS wr' H0 H3 H7 gs ws TB AW td cW L l:=by
 cases a:v.ownBlock with
 | none=>exact h.grown hg (by rw[a];simp) (by rw[a];simp) (by rw[a];exact Classical.em _) (λy _=>by rw[a];exact Classical.em _) (by rw[a];exact Classical.em _)
 | some r =>obtain⟨c,f,b,d,g⟩:=hk r (hown.lt r a).1;exact h.grown hg (by rw[a];simpa using c) (by rw[a];simpa using f) (.inr (by rw[a];exact b)) (λy i=>.inr (by rw[a];exact d y i)) (.inr (by rw[a];exact g))
end
theorem II{l:List Bk}(hk:k<l.length)(h1:l[k].kind=1):(aM l)[(aM (l.take k)).length]? = some l[k]:=by
 have e:l=l.take k++l[k]::l.drop (k+1):=by rw[List.getElem_cons_drop];exact (kxa k l).symm
 have a:aM l=aM (l.take k)++l[k]::aM (l.drop (k+1)):=by
  conv=>lhs;rw[e]
  unfold aM;rw[kx8,kk7 (by rw[kqw];exact h1)]
 rw[a,kxi (kqa _)];simp
theorem AO(A:Option Addr)(ws:List Nat)(c n:Nat)(w:World)(hn:ws.length=n)(hs:aj (n:Int)=true)(hc:n<=c)(hr:RdW w w.heap.size A ws)(ho:∀x∈ws,x<18446744073709551616):
 Calls prog 94 #[.slice A n c] w λe w'=>PtRes ws A n c e w'/\Below w.heap.size w w':=by
 subst hn;have hb:=(aa _).1 hs;have HR:=hid hr;have z:=hid (λW (hr:RdW W W.heap.size A ws)=>Fn A ws c ws.length W rfl (by omega) hc hr);unfold An at z;have Ki:jE ws=if (tyN ws).isSome=true then 0 else 50:=by unfold jE;rw[if_pos hs]
 have Kw:=hid (λW (hr:RdW W W.heap.size A ws)=>(show Calls prog 157 #[.slice A ws.length c,.int .i64 16] W λe w'=>e=.returned (.bool (fi ws 16))/\W=w' from vr A ws c ws.length 16 W rfl (by omega) (by omega) hc hr));have Ky:=hid (λW (hr:RdW W W.heap.size A ws)=>(show Calls prog 157 #[.slice A ws.length c,.int .i64 24] W λe w'=>e=.returned (.bool (fi ws 24))/\W=w' from vr A ws c ws.length 24 W rfl (by omega) (by omega) hc hr));have Lb:=hid (λW (hr:RdW W W.heap.size A ws)=>Jv A ws c ws.length W rfl (by omega) hr ho);have Lm:=hid (λW (hr:RdW W W.heap.size A ws)=>GW A ws c ws.length W rfl (by omega) hr ho);unfold F8 at Lb;unfold CO at Lm;have hzv:=zeroSg;have V:(prog.info? 163).map (·.size)=some (#[.slice none 0 0,.slice none 0 0,.slice none 0 0,.slice none 0 0,.map none]:Array Value).size:=uC;have X0:=hid (Bx.new w 163 #[.slice none 0 0,.slice none 0 0,.slice none 0 0,.slice none 0 0,.map none]);have D:=hid ((kqk w.heap.size w).alloc (kqa _) (.cells #[.slice none 0 0,.slice none 0 0,.slice none 0 0,.slice none 0 0,.map none] 163));cases ht:tyN ws with
 | none =>
  rw[ht] at z Ki;rw[Ki] at z;have HV:=hid (pv (.inl ht));simp only[kkr,kj0,kzh,if_false] at z;clear Ki ht hs hb hr ho Kw Ky Lb Lm hc;go_enter func94,ntmps94;go_wp2_with fail;refine (z.out _ (HR.out.up D.out D.out.size)).mono ?_;rintro e w1 ⟨⟨a,b0,b1,rfl⟩,Y⟩;have o:=hid (D.out.trans (Y.mono D.out.size));have X1:=hid (X0.out.up Y X0.out.lt);have Kf:=o.out.size;have r:=hid ((o.out.alloc Kf (.cells #[.int .i64 a,.int .i64 0] 126)).alloc (by simp;omega) (.cells #[.bool b0,.bool b1] 127));have X2:=hid ((X1.out.alloc (.cells #[.int .i64 a,.int .i64 0] 126)).alloc (.cells #[.bool b0,.bool b1] 127));clear Y;go_wp2_with (first
   | ((with_reducible refine ar 163 (.tmp 2) _ ?_);refine am rfl _ _ _ rfl w.heap.size 163 #[.slice none 0 0,.slice none 0 0,.slice none 0 0,.slice none 0 0,.map none] #[.slice none 0 0,.slice none 0 0,.slice none 0 0,.slice none 0 0,.map none] (by rfl) (by rfl) X2.out rfl V (by simp[Value.oneCell']) ?_;intro w9 d g;have m:=hid d;have j:=hid g;clear d g))
  exact kqo (v:=.tuple #[.agg #[.slice none 0 0,.slice none 0 0,.slice none 0 0,.slice none 0 0,.map none],.int .i64 1]) (fA results94 _ m.out rfl rfl rfl) rfl ⟨⟨1,_,rfl,by omega,λ_=>⟨HV.out,rfl⟩,λh=>by omega⟩,j.out.below r.out (kqa _)⟩
 | some t =>
  have My:=uK ht;rw[ht] at z Ki;rw[Ki] at z;simp only[kq8,kkg,if_true] at z;have Lr:=hid (λW (hr:RdW W W.heap.size A ws)=>Ep A ws c ws.length t W rfl hs My hr ho);unfold Jg at Lr;have Mo:=hid (λl S=>n8 (ws:=ws) (t:=t) (l:=l) ht S);have Ld:=hid (λh=>pv (ws:=ws) (.inr h));have Kp:Hid ((fi ws 16=false\/fi ws 24=false\/ib ws t=false\/slsOk ws=false\/wu ws=false)->lay ws=false):=hid λh=>by
   cases hq:lay ws with
   | false=>rfl
   | true =>
    cases S:blocks ws 128 with
    | none=>rw[Ld.out S] at hq;cases hq
    | some l =>obtain⟨a1,a2,a3,a4,a5,-⟩:=(Mo.out l S).1 hq;rw[a1,a2,a3,a4,iI S,a5] at h;simp at h
  have Mx:Hid (∀l,blocks ws 128=some l->∀k (hk:k<l.length),∃ka:Nat,l[k].at_=(ka:Int)/\ka<=2048):=hid λl S k hk=>by
   obtain⟨a,e,a1,a2,a3,a4,-⟩:=cp _ _ S (by omega) k hk;exact⟨a,by rw[e];rfl,by have:=(aF a4).2.2;omega⟩
  have Nn:=hid (λl (S:blocks ws 128=some l)=>(bK (by omega) _ _ S (by omega) (by omega) (by omega)).1);have Lc:=hid hs;have HT:=hid ht;have Lv:Hid (∀mb W,(Instr.build 163 #[(0,.slice A ws.length c),(4,.map (some mb))]).run prog W=.ok (.agg #[.slice A ws.length c,.slice none 0 0,.slice none 0 0,.slice none 0 0,.map (some mb)]) W):=hid λ_ _=>by kernel_rfl
  have hb2048:ws.length<=2048:=by omega
  clear Ki hs hb hr ho ht hc;go_enter func94,ntmps94;go_wp2_with fail;refine (z.out _ (HR.out.up D.out D.out.size)).mono ?_;rintro e w1 ⟨⟨a,b0,b1,rfl⟩,Y⟩;have o:=hid (D.out.trans (Y.mono D.out.size));have X1:=hid (X0.out.up Y X0.out.lt);have Kf:=o.out.size;have r:=hid ((o.out.alloc Kf (.cells #[.int .i64 a,.int .i64 (t:Int)] 126)).alloc (by simp;omega) (.cells #[.bool b0,.bool b1] 127));have X2:=hid ((X1.out.alloc (.cells #[.int .i64 a,.int .i64 (t:Int)] 126)).alloc (.cells #[.bool b0,.bool b1] 127));have T4:=hid ((Bx.new w1 126 #[.int .i64 a,.int .i64 (t:Int)]).alloc (.cells #[.bool b0,.bool b1] 127));clear Y;go_wp2_with fail;obtain⟨f,Mi⟩:∃f,(w1.alloc (.cells #[.int .i64 a,.int .i64 (t:Int)] 126)).alloc (.cells #[.bool b0,.bool b1] 127)=f:=⟨_,rfl⟩;rw[Mi] at r X2 T4 |-;clear Mi X0 X1 D o;have Kj:=r.out.size;refine (Kw.out _ (HR.out.up r.out Kj)).mono ?_;rintro e w2 ⟨rfl,rfl⟩;cases Lp:fi ws 16
  .have HV:=hid (Kp.out (.inl Lp));go_wp2_with (first
    | ((with_reducible refine ar 163 (.tmp 2) _ ?_);refine am rfl _ _ _ rfl w.heap.size 163 #[.slice none 0 0,.slice none 0 0,.slice none 0 0,.slice none 0 0,.map none] #[.slice none 0 0,.slice none 0 0,.slice none 0 0,.slice none 0 0,.map none] (by rfl) (by rfl) X2.out rfl V (by simp[Value.oneCell']) ?_;intro w9 d g;have m:=hid d;have j:=hid g;clear d g))
   exact kqo (v:=.tuple #[.agg #[.slice none 0 0,.slice none 0 0,.slice none 0 0,.slice none 0 0,.map none],.int .i64 2]) (fA results94 _ m.out rfl rfl rfl) rfl ⟨⟨2,_,rfl,by omega,λ_=>⟨HV.out,rfl⟩,λh=>by omega⟩,j.out.below r.out (kqa _)⟩
  have Mr:=hid Lp;clear Lp;go_wp2_with fail;refine (Ky.out _ (HR.out.up r.out Kj)).mono ?_;rintro e w2 ⟨rfl,rfl⟩;cases Lk:fi ws 24
  .have HV:=hid (Kp.out (.inr (.inl Lk)));go_wp2_with (first
    | ((with_reducible refine ar 163 (.tmp 2) _ ?_);refine am rfl _ _ _ rfl w.heap.size 163 #[.slice none 0 0,.slice none 0 0,.slice none 0 0,.slice none 0 0,.map none] #[.slice none 0 0,.slice none 0 0,.slice none 0 0,.slice none 0 0,.map none] (by rfl) (by rfl) X2.out rfl V (by simp[Value.oneCell']) ?_;intro w9 d g;have m:=hid d;have j:=hid g;clear d g))
   exact kqo (v:=.tuple #[.agg #[.slice none 0 0,.slice none 0 0,.slice none 0 0,.slice none 0 0,.map none],.int .i64 3]) (fA results94 _ m.out rfl rfl rfl) rfl ⟨⟨3,_,rfl,by omega,λ_=>⟨HV.out,rfl⟩,λh=>by omega⟩,j.out.below r.out (kqa _)⟩
  have Ns:=hid Lk;clear Lk;have Mq:=Lv.out;have Mn:=@run_makeMap prog;obtain⟨-,t41,-,-,Nr⟩:=T4.out.c2;go_wp2_with fail;have g3:=Bx.new (f.alloc (Obj.map #[] 0)) 163 #[.slice A ws.length c,.slice none 0 0,.slice none 0 0,.slice none 0 0,.map (some f.heap.size)];rw[kqm] at g3;have m3:=(World.ownsMap_made (H:=Unit) f prog 3 (plainElem prog 4)).alloc (.cells #[.slice A ws.length c,.slice none 0 0,.slice none 0 0,.slice none 0 0,.map (some f.heap.size)] 163);have x3:=(X2.out.alloc (Obj.map #[] 0)).alloc (.cells #[.slice A ws.length c,.slice none 0 0,.slice none 0 0,.slice none 0 0,.map (some f.heap.size)] 163);have Km:=(r.out.alloc Kj (Obj.map #[] 0)).alloc (by simp;omega) (.cells #[.slice A ws.length c,.slice none 0 0,.slice none 0 0,.slice none 0 0,.map (some f.heap.size)] 163);have Lo:((f.alloc (Obj.map #[] 0)).alloc (.cells #[.slice A ws.length c,.slice none 0 0,.slice none 0 0,.slice none 0 0,.map (some f.heap.size)] 163)).heap.size=f.heap.size+1+1:=by simp
  obtain⟨W3,Lw⟩:=xq ((f.alloc (Obj.map #[] 0)).alloc (.cells #[.slice A ws.length c,.slice none 0 0,.slice none 0 0,.slice none 0 0,.map (some f.heap.size)] 163));rw[Lw] at g3 m3 x3 Km Lo |-;have Me:=hid Lo;have Mz:w.heap.size<=W3.heap.size:=Km.size;refine (Lr.out _ (HR.out.up Km Km.size)).mono ?_;rintro e w4 ⟨⟨O,tm,R,L,rfl,hT⟩,Ke⟩;have g4:=g3.up Ke g3.lt;have M4:=hid (eg m3 (Ke.block _ m3.lt));have X4:=hid (x3.up Ke x3.lt);have Lg:=hid (Km.trans (Ke.mono Mz));have hz4:=Ke.size;have Mb:=x3.lt;have hg4:=g4.lt;obtain⟨q0,q1,q2,q3,q4,qf,-⟩:=g4.c5;have f1:=qf 1;have G4:=hid g4;have u:w.heap.size≠f.heap.size+1:=by have:=X2.out.lt;omega
  have hne7':=u.symm;clear Lw g3 m3 x3 Km Lo Ke qf g4 X2 r T4 t41 Nr Mq Mn;cases Kh:ib ws t
  .rw[Kh] at hT;simp only[kzh,if_false];have HV:=hid (Kp.out (.inr (.inr (.inl Kh))));have X5:=hid (X4.out.far (p:=⟨f.heap.size+1,1,none⟩) u (.slice O tm R));have Mw:=hid (Lg.out.setCell (p:=⟨f.heap.size+1,1,none⟩) (by dsimp only;omega) (.slice O tm R));clear hT Kh;go_wp2_with (first
    | ((with_reducible refine ar 163 (.tmp 2) _ ?_);refine am rfl _ _ _ rfl w.heap.size 163 #[.slice none 0 0,.slice none 0 0,.slice none 0 0,.slice none 0 0,.map none] #[.slice none 0 0,.slice none 0 0,.slice none 0 0,.slice none 0 0,.map none] (by rfl) (by rfl) X5.out rfl V (by simp[Value.oneCell']) ?_;intro w9 d g;have m:=hid d;have j:=hid g;clear d g))
   exact kqo (v:=.tuple #[.agg #[.slice none 0 0,.slice none 0 0,.slice none 0 0,.slice none 0 0,.map none],.int .i64 4]) (fA results94 _ m.out rfl rfl rfl) rfl ⟨⟨4,_,rfl,by omega,λ_=>⟨HV.out,rfl⟩,λh=>by omega⟩,j.out.below Mw.out (kqa _)⟩
  obtain⟨rfl,Ko,Mg⟩:=hT Kh;simp only[if_true];have Mp:=hid Kh;have Ni:=hid Mg;have J:f.heap.size+1<W3.heap.size:=by have:=Me.out;omega
  have OT5:=hid (show uU (w4.setCell ⟨f.heap.size+1,1,none⟩ (.slice O L.length R)) W3.heap.size (.slice O L.length R) L from ⟨av Ko.1 (bH Ko.1 J).symm _,λy hy=>av (Ko.2 y hy) (bH (Ko.2 y hy) J).symm _⟩);have X5:=hid (X4.out.far (p:=⟨f.heap.size+1,1,none⟩) u (.slice O L.length R));have G5:=hid (G4.out.set_ 1 (.slice O L.length R));have M5:=hid (M4.out.setCell (a:=⟨f.heap.size+1,1,none⟩) (by simp) (.slice O L.length R));have Kb:=Lg.out.setCell (p:=⟨f.heap.size+1,1,none⟩) (by dsimp only;omega) (.slice O L.length R);clear hT Kh Ko Mg;go_wp2_with fail;obtain⟨W5,Lh⟩:∃W5,w4.setCell ⟨f.heap.size+1,1,none⟩ (.slice O L.length R)=W5:=⟨_,rfl⟩;have Nt:W5.heap.size=w4.heap.size:=by rw[<-Lh];simp
  rw[Lh] at OT5 X5 G5 M5 Kb |-;refine (Lb.out _ (HR.out.up Kb Kb.size)).mono ?_;rintro e w6 ⟨hh,I⟩;have Lt:=Kb.trans (I.mono Kb.size);have g6:=G5.out.up I G5.out.lt;have X6:=hid (X5.out.up I X5.out.lt);have M6:=hid (eg M5.out (I.block _ M5.out.lt));have OT6:=hid (show uU w6 W3.heap.size (.slice O L.length R) L from ⟨ai OT5.out.1 I (kqa _),λy hy=>ai (OT5.out.2 y hy) I (kqa _)⟩);have hz6:=I.size;have hx6:=X6.out.lt;obtain⟨q0',q1',q2',q3',q4',qf',hg6⟩:=g6.c5;have f2:=qf' 2;have G6:=hid g6;have Kl:=hid Lt;have hgz:f.heap.size+1<W5.heap.size:=G5.out.lt;have h35:W3.heap.size<=W5.heap.size:=by omega
  have q:dI ws=if slsOk ws=true then 0 else 50:=by unfold dI;rw[if_pos Lc.out]
  clear Lh Nt Kb I Lt g6 qf' q0 q1 q2 q3 q4 f1 X4 G4 M4 Lg X5 G5 M5 OT5;cases Kk:slsOk ws
  .rw[Kk] at q;simp only[kzh,if_false] at q;obtain rfl:=hh.2 (by rw[q];decide);have HV:=hid (Kp.out (.inr (.inr (.inr (.inl Kk)))));rw[q];have X7:=hid (X6.out.far (p:=⟨f.heap.size+1,2,none⟩) u (.slice none 0 0));have Li:=hid (Kl.out.setCell (p:=⟨f.heap.size+1,2,none⟩) (by dsimp only;omega) (.slice none 0 0));clear Kk q hh;go_wp2_with (first
    | ((with_reducible refine ar 163 (.tmp 2) _ ?_);refine am rfl _ _ _ rfl w.heap.size 163 #[.slice none 0 0,.slice none 0 0,.slice none 0 0,.slice none 0 0,.map none] #[.slice none 0 0,.slice none 0 0,.slice none 0 0,.slice none 0 0,.map none] (by rfl) (by rfl) X7.out rfl V (by simp[Value.oneCell']) ?_;intro w9 d g;have m:=hid d;have j:=hid g;clear d g))
   exact kqo (v:=.tuple #[.agg #[.slice none 0 0,.slice none 0 0,.slice none 0 0,.slice none 0 0,.map none],.int .i64 5]) (fA results94 _ m.out rfl rfl rfl) rfl ⟨⟨5,_,rfl,by omega,λ_=>⟨HV.out,rfl⟩,λh=>by omega⟩,j.out.below Li.out (kqa _)⟩
  rw[Kk] at q;simp only[if_true] at q;obtain⟨T,rfl,Mu,Ma⟩:=hh.1 q;rw[q];have Nu:=hid Kk;have Mf:T≠f.heap.size+1:=by omega
  have S7:=hid (Ma.far (p:=⟨f.heap.size+1,2,none⟩) Mf (.slice (some ⟨T,0,none⟩) 16 16));have X7:=hid (X6.out.far (p:=⟨f.heap.size+1,2,none⟩) u (.slice (some ⟨T,0,none⟩) 16 16));have G7:=hid (G6.out.set_ 2 (.slice (some ⟨T,0,none⟩) 16 16));have M7:=hid (M6.out.setCell (a:=⟨f.heap.size+1,2,none⟩) (by simp) (.slice (some ⟨T,0,none⟩) 16 16));have OT7:=hid (show uU (w6.setCell ⟨f.heap.size+1,2,none⟩ (.slice (some ⟨T,0,none⟩) 16 16)) W3.heap.size (.slice O L.length R) L from ⟨av OT6.out.1 (bH OT6.out.1 J).symm _,λy hy=>av (OT6.out.2 y hy) (bH (OT6.out.2 y hy) J).symm _⟩);have X:=Kl.out.setCell (p:=⟨f.heap.size+1,2,none⟩) (by dsimp only;omega) (.slice (some ⟨T,0,none⟩) 16 16);clear Kk q hh Ma;go_wp2_with fail;obtain⟨W7,Kt⟩:∃W7,w6.setCell ⟨f.heap.size+1,2,none⟩ (.slice (some ⟨T,0,none⟩) 16 16)=W7:=⟨_,rfl⟩;have Ks:W7.heap.size=w6.heap.size:=by rw[<-Kt];simp
  rw[Kt] at OT7 X7 G7 M7 S7 X |-;refine (Lm.out _ (HR.out.up X X.size)).mono ?_;rintro e w8 ⟨⟨AW,cW,rfl,B⟩,C⟩;have Ll:=hid (X.trans (C.mono X.size));have X8:=hid (X7.out.up C X7.out.lt);have hgl:T<W7.heap.size:=S7.out.lt;have Nb:W5.heap.size<=W7.heap.size:=by omega
  cases Q:wu ws
  .have HV:=hid (Kp.out (.inr (.inr (.inr (.inr Q)))));have he:kR ws=50:=by unfold kR;rw[if_pos Lc.out,Q];rfl
   have ho:mC ws=[]:=by unfold mC;rw[if_neg (by rw[he];decide)]
   rw[he,ho];clear Q he ho B X C Kt Ks q0' q1' q2' q3' q4' f2;go_wp2_with (first
    | ((with_reducible refine ar 163 (.tmp 2) _ ?_);refine am rfl _ _ _ rfl w.heap.size 163 #[.slice none 0 0,.slice none 0 0,.slice none 0 0,.slice none 0 0,.map none] #[.slice none 0 0,.slice none 0 0,.slice none 0 0,.slice none 0 0,.map none] (by rfl) (by rfl) X8.out rfl V (by simp[Value.oneCell']) ?_;intro w9 d g;have m:=hid d;have j:=hid g;clear d g))
   exact kqo (v:=.tuple #[.agg #[.slice none 0 0,.slice none 0 0,.slice none 0 0,.slice none 0 0,.map none],.int .i64 6]) (fA results94 _ m.out rfl rfl rfl) rfl ⟨⟨6,_,rfl,by omega,λ_=>⟨HV.out,rfl⟩,λh=>by omega⟩,j.out.below Ll.out (kqa _)⟩
  have he:kR ws=0:=by unfold kR;rw[if_pos Lc.out,Q];rfl
  obtain⟨l,S⟩:∃l,blocks ws 128=some l:=by
   cases S:blocks ws 128 with
   | none=>rw[nX S] at Q;cases Q
   | some l=>exact⟨l,rfl⟩
  have ho:mC ws=l:=by unfold mC;rw[if_pos he,S];rfl
  have Kz:kk l=true:=by rw[<-iI S];exact Q
  rw[ho] at B;rw[he,ho];have hl24:l.length<=1024:=by have:=Nn.out l S;omega
  have HL:=hid S;have Ms:=hid Kz;have P8:=hid (show PtS w8 w.heap.size W3.heap.size W5.heap.size T ws O AW R cW L l from ⟨X8.out,⟨ai OT7.out.1 C (kqa _),λy hy=>ai (OT7.out.2 y hy) C (kqa _)⟩,S7.out.up C S7.out.lt,ao B Nb⟩);have Mv:=hid P8.out.bk;have G8:=hid (G7.out.up C G7.out.lt);have M8:=hid (eg M7.out (C.block _ M7.out.lt));have Mh:=G8.out.lt;have Md:=M8.out.lt;have Ng:=Ll.out.size;have Nj:=hid (Mx.out l HL.out);clear Q he ho S Kz B X C Kt Ks q0' q1' q2' q3' q4' f2 OT6 OT7 X6 X7 X8 G6 G7 M6 M7 S7 Kl;obtain⟨i2,hi,Lz,Kf,Kj⟩:=kzw kP;have HJ:=hid hi;have Nh:=hid Lz;have Mt:=hid Kf;have Nl:=hid Kj;clear hi Lz Kf Kj;go_wp2_with fail;go_loopw [61] (λi wr=>∃(k:Nat) (OB:Option Addr) (oc:Nat),k<=l.length/\i=.int .i64 k/\Hid (Bx wr (f.heap.size+1) 163 #[.slice A ws.length c,.slice O L.length R,.slice (some ⟨T,0,none⟩) 16 16,.slice OB (aM (l.take k)).length oc,.map (some f.heap.size)])/\Hid (wr.ownsRow w8.heap.size 55 6 (.slice OB (aM (l.take k)).length oc) (aM (l.take k)).length ((aM (l.take k)).flatMap Bk.cells))/\Hid (wr.ownsMap prog 3 (plainElem prog 4) f.heap.size (aM (l.take k)).length (fk ((aM l).map Bk.at_) (aM (l.take k)).length))/\Hid (PtS wr w.heap.size W3.heap.size W5.heap.size T ws O AW R cW L l)/\w8.heap.size<=wr.heap.size/\Hid (Below w.heap.size w wr)) (λi _=>l.length-(intOf i).toNat)
  case atStart=>exact⟨0,none,0,kqy _,rfl,G8,hid (kza _ _ _ _),M8,P8,kqa _,Ll⟩
  obtain⟨k,OB,oc,hk,rfl,G,ON,M,P,Lx,HB⟩:=hrel;have hz:=HB.out.size;by_cases Kq:k<l.length
  .obtain ⟨b,off,rfl,hbb,p0,p1,p2,p3,p4,p5⟩:=RdB.at_ (show RdB wr wr.heap.size AW l from Rd.of_own P.out.b) Kq;have Ka:=hid (rU Kq);have Kd:=hid (II Kq);have Mc:(aM (l.take k)).length<=k:=by unfold aM;have:=kjp (λb:Bk=>b.kind==1) (l.take k);rw[kq3] at this;omega
   obtain⟨x,hx⟩:=xq (l[k]);rw[hx] at p0 p1 p2 p3 p4 p5 Ka Kd;obtain⟨E,xs,xk,F,N,K⟩:=x;dsimp only at p0 p1 p2 p3 p4 p5 Ka Kd;obtain⟨LK,Ls⟩:=xq (aM (l.take k));rw[Ls] at G ON M Ka Kd Mc;have hki:(k:Int)<(l.length:Int):=by omega
   have hk0:(0:Int)<=(k:Int):=by omega
   obtain⟨ka,Kv,hka2⟩:=Nj.out k Kq;rw[hx] at Kv;dsimp only at Kv;clear hx Ls;by_cases Kg:xk=1
   .have Eq:Hid (aM (l.take (k+1))=LK++[⟨E,xs,xk,F,N,K⟩]):=hid (by rw[Ka.out,if_pos Kg]);have HX:=hid (Kd.out Kg);have No:Hid (fk ((aM l).map Bk.at_) (LK.length+1)=(fk ((aM l).map Bk.at_) LK.length).put (.int .i64 E) (.lit (.bool true))):=hid (by simp only[fk,kxf,HX.out];rfl);have Lu:(Lit.int .i64 E).wf=true:=by simp[Lit.wf,IntKind.min,IntKind.max,IntKind.signed,IntKind.bits];omega
    have HK:=hid (keyOf_int_mk (P:=prog) underlying3 Lu);subst Kg;obtain⟨g0,g1,g2,g3,g4,gf,-⟩:=G.out.c5;have gf3:=gf 3;have hgw:=G.out.lt;have Kn:=hid (ON.out.alloc (.cells #[.int .i64 E,.int .i64 xs,.int .i64 1,.int .i64 F,.bool N,.int .u64 (K:Int)] 55));have Ln:=hid (G.out.alloc (.cells #[.int .i64 E,.int .i64 xs,.int .i64 1,.int .i64 F,.bool N,.int .u64 (K:Int)] 55));have Le:=hid (M.out.alloc (.cells #[.int .i64 E,.int .i64 xs,.int .i64 1,.int .i64 F,.bool N,.int .u64 (K:Int)] 55));have Lf:=hid (P.out.alloc (.cells #[.int .i64 E,.int .i64 xs,.int .i64 1,.int .i64 F,.bool N,.int .u64 (K:Int)] 55));have o:=hid (HB.out.alloc hz (.cells #[.int .i64 E,.int .i64 xs,.int .i64 1,.int .i64 F,.bool N,.int .u64 (K:Int)] 55));have BX1:=hid (Bx.new wr 55 #[.int .i64 E,.int .i64 xs,.int .i64 1,.int .i64 F,.bool N,.int .u64 (K:Int)]);have La:w8.heap.size<=(wr.alloc (.cells #[.int .i64 E,.int .i64 xs,.int .i64 1,.int .i64 F,.bool N,.int .u64 (K:Int)] 55)).heap.size:=aS Lx;have Kx:=hid La;have Ld:=hid (show some wr.heap.size≠(Value.slice OB LK.length oc).ownBlock from λh=>by have:=(ON.out.lt _ h.symm).2;omega);have hmw:=M.out.lt
    have Kr:=cI (wr.alloc (.cells #[.int .i64 E,.int .i64 xs,.int .i64 1,.int .i64 F,.bool N,.int .u64 (K:Int)] 55)) [.int .i64 E,.int .i64 xs,.int .i64 1,.int .i64 F,.bool N,.int .u64 (K:Int)] 55;rw[kqm] at Kr;have Kr:=hid Kr;clear Ka Kd Lu gf Kv La;go_wp2_with (first
     | (at_builtin;refine kze _ rfl _ _ 48 rfl w8.heap.size 55 i2 _ 6 48 underlying48 HJ.out Nh.out Mt.out Nl.out rfl (by decide) _ _ _ rfl (Kn.out.alloc _) ⟨_,0,none⟩ 1 1 [.int .i64 E,.int .i64 xs,.int .i64 1,.int .i64 F,.bool N,.int .u64 (K:Int)] rfl rfl Kr.out (by simp[Value.oneCell']) (by unfold maxLen;omega) (by omega) (aS Kx.out) ?_;intro v1 w6 Z U _;obtain⟨OV,oc2,rfl⟩:=aO Z;have Kl:=hid (aE o.out o.out.size (ao Kn.out Ng) U);have Lq:=hid Z;have Mm:=hid ((Ln.out.alloc _).grown U (bH ON.out Mh));have Np:=hid ((Le.out.alloc _).kept U (bH ON.out Md));have Nm:=hid ((Lf.out.alloc _).late Mv.out Kn.out U);have BX6:=hid ((BX1.out.alloc _).grown U Ld.out);have Nd:=kz3 (aS Kx.out) U.size;obtain⟨d0,d1,d2,d3,d4,df,-⟩:=Mm.out.c5;obtain⟨x0,-,-,-,-,-,-,xlt⟩:=BX6.out.c6;have df3:=df 3;clear Z U df)
     | (at_mapUpdate;refine wpList_mapUpdate_own _ rfl _ _ _ 161 rfl 3 4 nT underlying161 _ f.heap.size _ _ rfl (Np.out.setCell (a:=⟨f.heap.size+1,3,none⟩) (by simp) _) (by unfold maxLen;omega) _ _ _ rfl rfl HK.out (.lit (.bool true)) [] (plainElem_bool underlying4 true) ?_;intro w7 Lj Kc))
    have Li:=hid ((Kl.out.setCell (p:=⟨f.heap.size+1,3,none⟩) (by dsimp only;omega) (.slice OV (LK.length+1) oc2)).grown Kc (by rw[kz6];exact Kl.out.size) (λk hk=>by injection hk with hk;omega));have Nc:=hid ((Mm.out.set_ 3 (.slice OV (LK.length+1) oc2)).grown Kc (by simp));have n7:=(bH Lq.out Mh).symm;have Nf:=hid (bC (av Lq.out n7 (.slice OV (LK.length+1) oc2)) Kc (.inr (bH Lq.out Md).symm));have Ly:=gu P.out.x M.out;have Ml:=gu P.out.s M.out;have Mj:f.heap.size<W3.heap.size:=by have:=Me.out;omega
    have Nq:=hid ((Nm.out.set_ (p:=⟨f.heap.size+1,3,none⟩) u J (by omega) Mu (.slice OV (LK.length+1) oc2)).grown Kc Ly Ml (.inr (bH P.out.t.1 Mj).symm) (λy hy=>.inr (bH (P.out.t.2 y hy) Mj).symm) (.inr (bH P.out.b (show f.heap.size<W5.heap.size by omega)).symm));have Ks:w8.heap.size<=w7.heap.size:=kz3 Nd (by have:=Kc.size;rw[kz6] at this;exact this);clear Kc Ly Ml n7;go_wp2;go_roundw
    case rel =>
     refine⟨k+1,OV,oc2,by omega,by go_num,?_,?_,?_,Nq,Ks,Li⟩
     .rw[Eq.out,kqu];exact Nc
     .rw[Eq.out,kqu,kxk];exact Nf
     rw[Eq.out,kqu];refine hid ?_;show w7.ownsMap _ _ _ _ (LK.length+1) (fk _ (LK.length+1));rw[No.out];exact Lj
    case measure=>simp[intOf];omega
   have Eq:Hid (aM (l.take (k+1))=LK):=hid (by rw[Ka.out,if_neg Kg,kzs]);have e1:(xk==1)=false:=by rw[kqi];exact Kg
   have Kn:=hid (ON.out.alloc (.cells #[.int .i64 E,.int .i64 xs,.int .i64 xk,.int .i64 F,.bool N,.int .u64 (K:Int)] 55));have Ln:=hid (G.out.alloc (.cells #[.int .i64 E,.int .i64 xs,.int .i64 xk,.int .i64 F,.bool N,.int .u64 (K:Int)] 55));have Le:=hid (M.out.alloc (.cells #[.int .i64 E,.int .i64 xs,.int .i64 xk,.int .i64 F,.bool N,.int .u64 (K:Int)] 55));have Lf:=hid (P.out.alloc (.cells #[.int .i64 E,.int .i64 xs,.int .i64 xk,.int .i64 F,.bool N,.int .u64 (K:Int)] 55));have o:=hid (HB.out.alloc hz (.cells #[.int .i64 E,.int .i64 xs,.int .i64 xk,.int .i64 F,.bool N,.int .u64 (K:Int)] 55));have Nk:=hid (show w8.heap.size<=(wr.alloc (.cells #[.int .i64 E,.int .i64 xs,.int .i64 xk,.int .i64 F,.bool N,.int .u64 (K:Int)] 55)).heap.size from aS Lx);subst Kv;clear Ka Kd Kg;go_wp2;go_roundw
   case rel=>exact⟨k+1,OB,oc,by omega,by go_num,by rw[Eq.out];exact Ln,by rw[Eq.out];exact Kn,by rw[Eq.out];exact Le,Lf,Nk.out,o⟩
   case measure=>simp[intOf];omega
  obtain rfl:k=l.length:=by omega
  rw[kzl] at G ON M;have HG:=hid G.out;obtain⟨g0,g1,g2,g3,g4,-,-⟩:=G.out.c5;go_wp2_with (first
   | ((with_reducible refine aN 163 (.tmp 7) ?_);refine kxh rfl _ _ rfl (f.heap.size+1) (by rfl) 163 _ (0,0) _ HG.out underlying163 (by rfl) uC ?_)
   | ((with_reducible refine ar 163 (.tmp 2) _ ?_);refine am rfl _ _ _ rfl w.heap.size 163 #[.slice none 0 0,.slice none 0 0,.slice none 0 0,.slice none 0 0,.map none] #[.slice A ws.length c,.slice O L.length R,.slice (some ⟨T,0,none⟩) 16 16,.slice OB (aM l).length oc,.map (some f.heap.size)] (by rfl) (by rfl) P.out.x rfl V (by simp[Value.oneCell']) ?_;intro w9 d g;have m:=hid d;have j:=hid g;clear d g))
  refine kqo (v:=.tuple #[.agg #[.slice A ws.length c,.slice O L.length R,.slice (some ⟨T,0,none⟩) 16 16,.slice OB (aM l).length oc,.map (some f.heap.size)],.int .i64 0]) (fA results94 _ m.out rfl rfl rfl) rfl ⟨⟨0,_,rfl,kks _,λh=>absurd rfl h,λ_=>⟨t,l,?_⟩⟩,j.out.below HB.out (kqa _)⟩;have d:=j.out.2.2 w.heap.size (kqa _);have Ku:wr.grownBy w9 (some w.heap.size):=⟨d.os,d.tape,d.output,by rw[j.out.1];exact kqa _,λk hk Na=>j.out.2.1 k (λe=>Na (by rw[e]))⟩;have hS:=j.out.bx P.out.s (show T≠w.heap.size by omega);refine⟨HT.out,HL.out,Mr.out,Ns.out,Mp.out,Nu.out,Ms.out,O,some ⟨T,0,none⟩,OB,R,16,oc,f.heap.size,L,rfl,?_,Ni.out,Rd.of_box hS hS.lt,?_,?_⟩
  .exact RdL.of_own (H:=W3.heap.size) ⟨bC P.out.t.1 Ku (.inr (bH P.out.t.1 Mb).symm),λy hy=>bC (P.out.t.2 y hy) Ku (.inr (bH (P.out.t.2 y hy) Mb).symm)⟩ rfl
  .exact Rd.of_own (bC ON.out Ku (.inr (bH ON.out (show w.heap.size<w8.heap.size by omega)).symm))
  exact M.out.kept Ku (gu P.out.x M.out).symm
theorem zG{t:Nat}{L:List Ty}(hty:ib ws t=true)(hL:L.map Ty.l=gJ ws t 8):∀x∈L,da x.l=0/\kSz x.l=bi x.l.length/\x.l.length<=8:=by
 intro x h;have d:x.l∈gJ ws t 8:=by rw[<-hL];exact kjk h
 unfold gJ at d;obtain⟨i,g,e⟩:=kzr.1 d;rw[kzj] at g;have a:=(jz ws t).1 hty i (by omega);unfold Dq at a;rw[if_pos (by omega)] at a;have c:x.l=dB (wd ws (96+2*i)):=by rw[<-e];unfold bp;rw[if_pos a]
 obtain⟨k,j,-,-⟩:=rh a;have b:x.l.length<=8:=by rw[c,eZ];exact k
 have f:da x.l=0:=jn b (by rw[c];exact j);exact⟨f,by unfold kSz;rw[if_pos f],b⟩
section
variable {A TA SA OA:Option Addr} {ws:List Nat} {L:List Ty} {l:List Bk} {c n tc tn sc sn oc mb:Nat} {w:World}
theorem El(hl:blocks ws 128=some l)(hm:(aM l).length<=1000000)(hO:RdB w w.heap.size OA (aM l)):
 Calls prog 100 #[.agg #[.slice A n c,.slice TA tn tc,.slice SA sn sc,.slice OA (aM l).length oc,.map (some mb)],.func (.func 95) #[.agg #[.slice A n c,.slice TA tn tc,.slice SA sn sc,.slice OA (aM l).length oc,.map (some mb)]] #[]] w λe w'=>e=.returned (.bool ((aM l).all λb=>!wrK ws T (aM l) 7 b))/\Below w.heap.size w w':=by
 refine jI 95 A TA SA OA (aM l) _ c n tc tn sc sn oc (aM l).length mb w rfl hm hO (λ_ _=>by kernel_rfl) (λk h W hb=>?_);obtain⟨a,z,g,d,f,e,-⟩:=gH hl (kqq h);rw[e,mp];have i:wrB ws T (aM l) a z g f d 7=(f||decide (0<d)):=by simp[wrB]
 rw[i];exact Fe A TA SA OA c n tc tn sc sn oc (aM l).length mb a z g d 1 f W
theorem zt(hl:blocks ws 128=some l)(hm:(aM l).length<=1000000)(ht:L.length=tn)(hk:∀x∈L,da x.l=0/\kSz x.l=bi x.l.length/\x.l.length<=8)(hO:RdB w w.heap.size OA (aM l))(hL:RdL w w.heap.size TA L):
 Calls prog 100 #[.agg #[.slice A n c,.slice TA tn tc,.slice SA sn sc,.slice OA (aM l).length oc,.map (some mb)],.func (.func 96) #[.agg #[.slice A n c,.slice TA tn tc,.slice SA sn sc,.slice OA (aM l).length oc,.map (some mb)]] #[]] w λe w'=>e=.returned (.bool ((aM l).all λb=>!wrK ws (L.map Ty.l) (aM l) 8 b))/\Below w.heap.size w w':=by
 refine jI 96 A TA SA OA (aM l) _ c n tc tn sc sn oc (aM l).length mb w rfl hm hO (λ_ _=>by kernel_rfl) (λk h W f=>?_);obtain⟨a,z,d,g,i,e,-⟩:=gH hl (kqq h);rw[e,mp];have j:(!wrB ws (L.map Ty.l) (aM l) a z d i g 8)=(decide (d<L.length)&&bi (((L.map Ty.l)[d]?).getD []).length==z):=by unfold wrB;rw[if_neg (by decide),if_pos rfl,kzo];cases decide (d<L.length)<;>simp[bne]
 rw[j];exact Dg A TA SA OA L c n tc tn sc sn oc (aM l).length mb a z d g 1 i W ht hk (hL.up f f.size)
theorem qQ{a z ty nx:Nat}{mk:Bool}(hT:L.map Ty.l=T)(h:wrK ws T O 8 ⟨(a:Int),(z:Int),1,(ty:Int),mk,nx⟩=false):∃h:ty<L.length,z=bi L[ty].l.length/\(T[ty]?).getD []=L[ty].l:=by
 rw[mp] at h;unfold wrB at h;rw[if_neg (by decide),if_pos rfl,kzn,kk2,kqn,kqr,<-hT,kzo] at h;have e:(T[ty]?).getD []=(L[ty]'h.1).l:=by rw[<-hT];simp[h.1]
 refine⟨h.1,?_,e⟩;rw[<-e,<-hT];exact h.2.symm
theorem wN(hl:blocks ws 128=some l)(hm:(aM l).length<=1000000)(hn:ws.length=n)(hn2:n<=2048)(ht:L.length=tn)(hk:∀x∈L,da x.l=0/\kSz x.l=bi x.l.length/\x.l.length<=8)(h8:∀b∈aM l,wrK ws (L.map Ty.l) (aM l) 8 b=false)(hO:RdB w w.heap.size OA (aM l))(hL:RdL w w.heap.size TA L)(hR:RdW w w.heap.size A ws):
 Calls prog 100 #[.agg #[.slice A n c,.slice TA tn tc,.slice SA sn sc,.slice OA (aM l).length oc,.map (some mb)],.func (.func 97) #[.agg #[.slice A n c,.slice TA tn tc,.slice SA sn sc,.slice OA (aM l).length oc,.map (some mb)]] #[]] w λe w'=>e=.returned (.bool ((aM l).all λb=>!wrK ws (L.map Ty.l) (aM l) 9 b))/\Below w.heap.size w w':=by
 refine jI 97 A TA SA OA (aM l) _ c n tc tn sc sn oc (aM l).length mb w rfl hm hO (λ_ _=>by kernel_rfl) (λk h W g=>?_);obtain⟨a,z,i,m,j,e,-,haz,-⟩:=gH hl (kqq h);have d:=h8 _ (kqq h);rw[e] at d |-;obtain⟨f,q,o⟩:=qQ rfl d;rw[mp];have p:wrB ws (L.map Ty.l) (aM l) a z i j m 9=(decide (L[i].l.length+2<z)&&wd ws (a+2+L[i].l.length) != 0):=by unfold wrB;rw[if_neg (by decide),if_neg (by decide),if_pos rfl,o]
 rw[p];exact yL A TA SA OA ws L c n tc tn sc sn oc (aM l).length mb a z i m 1 j W hn hn2 ht f (hk _ (kqq f)).2.2 q (by omega) (hR.up g g.size) (hL.up g g.size)
theorem wQ(hl:blocks ws 128=some l)(hm:(aM l).length<=1000000)(hn:ws.length=n)(hn2:n<=2048)(ht:L.length=tn)(ho:∀x∈ws,x<18446744073709551616)(hk:∀x∈L,da x.l=0/\kSz x.l=bi x.l.length/\x.l.length<=8)(h8:∀b∈aM l,wrK ws (L.map Ty.l) (aM l) 8 b=false)(hO:RdB w w.heap.size OA (aM l))(hL:RdL w w.heap.size TA L)(hR:RdW w w.heap.size A ws):
 Calls prog 100 #[.agg #[.slice A n c,.slice TA tn tc,.slice SA sn sc,.slice OA (aM l).length oc,.map (some mb)],.func (.func 98) #[.agg #[.slice A n c,.slice TA tn tc,.slice SA sn sc,.slice OA (aM l).length oc,.map (some mb)]] #[]] w λe w'=>e=.returned (.bool ((aM l).all λb=>!wrK ws (L.map Ty.l) (aM l) 10 b))/\Below w.heap.size w w':=by
 refine jI 98 A TA SA OA (aM l) _ c n tc tn sc sn oc (aM l).length mb w rfl hm hO (λ_ _=>by kernel_rfl) (λk h W g=>?_);obtain⟨a,z,j,o,m,e,-,haz,-⟩:=gH hl (kqq h);have d:=h8 _ (kqq h);rw[e] at d |-;obtain⟨f,r,p⟩:=qQ rfl d;rw[mp];have q:wrB ws (L.map Ty.l) (aM l) a z j m o 10=((List.range L[j].l.length).any λi=>wrF ws L[j].l (aM l) a 10 i):=by unfold wrB;rw[if_neg (by decide),if_neg (by decide),if_neg (by decide),p]
 rw[q];exact yC A TA SA OA ws L (aM l) c n tc tn sc sn oc (aM l).length mb a z j o 1 m W hn hn2 ht f (hk _ (kqq f)).2.2 r (by omega) (hR.up g g.size) (hL.up g g.size) ho
theorem Fd(hl:blocks ws 128=some l)(hm:(aM l).length<=1000000)(hn:ws.length=n)(hn2:n<=2048)(ht:L.length=tn)(ho:∀x∈ws,x<18446744073709551616)(hk:∀x∈L,da x.l=0/\kSz x.l=bi x.l.length/\x.l.length<=8)(h8:∀b∈aM l,wrK ws (L.map Ty.l) (aM l) 8 b=false)(hO:RdB w w.heap.size OA (aM l))(hL:RdL w w.heap.size TA L)(hR:RdW w w.heap.size A ws)(hM:w.ownsMap prog 3 (plainElem prog 4) mb (aM l).length (fk ((aM l).map Bk.at_) (aM l).length)):
 Calls prog 100 #[.agg #[.slice A n c,.slice TA tn tc,.slice SA sn sc,.slice OA (aM l).length oc,.map (some mb)],.func (.func 99) #[.agg #[.slice A n c,.slice TA tn tc,.slice SA sn sc,.slice OA (aM l).length oc,.map (some mb)]] #[]] w λe w'=>e=.returned (.bool ((aM l).all λb=>!wrK ws (L.map Ty.l) (aM l) 11 b))/\Below w.heap.size w w':=by
 refine jI 99 A TA SA OA (aM l) _ c n tc tn sc sn oc (aM l).length mb w rfl hm hO (λ_ _=>by kernel_rfl) (λk h W d=>?_);obtain⟨a,z,j,o,m,e,-,haz,-⟩:=gH hl (kqq h);have f:=h8 _ (kqq h);rw[e] at f |-;obtain⟨g,t,r⟩:=qQ rfl f;rw[mp];have s:wrB ws (L.map Ty.l) (aM l) a z j m o 11=((List.range L[j].l.length).any λi=>wrF ws L[j].l (aM l) a 11 i):=by unfold wrB;rw[if_neg (by decide),if_neg (by decide),if_neg (by decide),r]
 rw[s];refine EO A TA SA OA ws L (aM l) c n tc tn sc sn oc (aM l).length mb a z j o 1 m W hn hn2 ht g (hk _ (kqq g)).2.2 t (by omega) (hR.up d d.size) (hL.up d d.size) ho (λb d=>?_) (eg hM (d.block _ hM.lt));obtain⟨q,z',ty',nx',mk',p,-,haz',hz2,-⟩:=gH hl d;rw[p];show (q:Int)<n;omega
end
def AX (ws:List Nat) (e:Ending):Prop:=∃r:Int,e=.returned (.tuple #[.int .i64 r,.int .i64 (ls ws.length)])/\0<=r/\(aj (ws.length:Int)=true->(r=0↔lay ws=true))
def JJ (ws:List Nat) (T:List (List Nat)) (O:List Bk) (k:Nat):Prop:=∀r,7<=r->r<7+k->∀b∈O,wrK ws T O r b=false
theorem BG(h:JJ ws T O k)(h1:(O.all λb=>!wrK ws T O (7+k) b)=true):JJ ws T O (k+1):=λr d hr b a=>by
 rcases kq6 r (7+k) with c|c
 .exact h r d c b a
 .have:r=7+k:=by omega
  subst this;have:=kzu.1 h1 b a
  simpa using this
theorem FL(hk:k<5)(h1:(O.all λb=>!wrK ws T O (7+k) b)=false):¬ ∀r,7<=r->r<12->∀b∈O,wrK ws T O r b=false:=λh=>by rw[kzu.2 λb a=>by rw[h (7+k) (by omega) (by omega) b a];rfl] at h1;cases h1
def mZ (O:List Bk) (S:List Sl) (k:Nat):Prop:=∀i (h:i<S.length),i<k->jV O S[i]=true
theorem rD{S:List Sl}(hk:k<S.length)(h:mZ O S k)(h1:jV O S[k]=true):mZ O S (k+1):=λi b hlt=>by
 rcases kq6 i k with a|a
 .exact h i b a
 .have:i=k:=by omega
  subst this;exact h1
theorem yw(A:Option Addr)(ws:List Nat)(c n:Nat)(w:World)(hn:ws.length=n)(hm:n<=9223372036854775807)(hc:n<=c)(hr:RdW w w.heap.size A ws)(ho:∀x∈ws,x<18446744073709551616):
 Calls prog 51 #[.slice A n c] w λe w'=>AX ws e/\Below w.heap.size w w':=by
 subst hn;have Eq:=hid (aG A ws.length c w hm);cases hs:aj (ws.length:Int)
 .have HE:=hid (bI hs);have K:Hid (AX ws (.returned (.tuple #[.int .i64 0,.int .i64 8]))):=hid ⟨0,by rw[HE.out],kks _,λh=>by rw[hs] at h;cases h⟩;rw[HE.out] at Eq;clear hs hr ho hm hc;go_enter func51,ntmps51;go_wp2_with fail;refine Eq.out.mono ?_;rintro e w1 ⟨rfl,rfl⟩;go_wp2;go_ret2;exact⟨K.out,kqk _ _⟩
 have HE:=hid (aZ hs);have Q:=(aa _).1 hs;have Kt:=hid (AO A ws c ws.length w rfl hs hc hr ho);have Z:Hid (∀r:Int,0<r->lay ws=false->AX ws (.returned (.tuple #[.int .i64 r,.int .i64 0]))):=hid λr h h2=>⟨r,by rw[HE.out],by omega,λ_=>⟨λh3=>by omega,λh3=>by rw[h2] at h3;cases h3⟩⟩;have Ke:Hid (lay ws=true->AX ws (.returned (.tuple #[.int .i64 0,.int .i64 0]))):=hid λh=>⟨0,by rw[HE.out],kks _,λ_=>⟨λ_=>h,λ_=>rfl⟩⟩;rw[HE.out] at Eq;have HR:=hid hr;have Kv:=hid ho;have hlen:256<=ws.length/\ws.length<=2048:=by omega
 have hi5:(prog.info? 163).map (·.size)=some (#[.slice none 0 0,.slice none 0 0,.slice none 0 0,.slice none 0 0,.map none]:Array Value).size:=uC;unfold PtRes at Kt;clear hs hr ho hm hc Q;go_enter func51,ntmps51;go_wp2_with fail;refine Eq.out.mono ?_;rintro e w1 ⟨rfl,rfl⟩;go_wp2_with fail;refine Kt.out.mono ?_;rintro e J ⟨⟨r,sv,rfl,Ld,X,I⟩,Kk⟩;have Kn:=hid Kk;have Kb:=Kk.size;clear Kk;by_cases h0:r=0
 .subst h0;obtain⟨t,l,P⟩:=I rfl;have PQ:=hid P;obtain⟨z,a,y,o,B,m,d,L,rfl,hL,Ko,hS,hO,hM⟩:=P.mem;have Kf:=hid (n8 P.ty P.bl);have HK:=hid (zG P.tys Ko);have Lq:=hid hL;have Lg:=hid hS;have Lh:=hid hO;have Le:=hid hM;have Lr:=hid Ko;have Kd:(aM l).length<=1000000:=by have:=(bK (by omega) _ _ P.bl (by omega) (by omega) (by omega)).1;have:=kjp (λb:Bk=>b.kind==1) l;unfold aM;omega
  have V:=hid Kd;have Ln:=hM.lt;clear X I P hL Ko hS hO hM Kd Ld;have Kg:((J.alloc (.cells #[.slice A ws.length c,.slice z L.length o,.slice a 16 B,.slice y (aM l).length m,.map (some d)] 163)).alloc (.cells #[.func (.func 95) #[.agg #[.slice A ws.length c,.slice z L.length o,.slice a 16 B,.slice y (aM l).length m,.map (some d)]] #[],.func (.func 96) #[.agg #[.slice A ws.length c,.slice z L.length o,.slice a 16 B,.slice y (aM l).length m,.map (some d)]] #[],.func (.func 97) #[.agg #[.slice A ws.length c,.slice z L.length o,.slice a 16 B,.slice y (aM l).length m,.map (some d)]] #[],.func (.func 98) #[.agg #[.slice A ws.length c,.slice z L.length o,.slice a 16 B,.slice y (aM l).length m,.map (some d)]] #[],.func (.func 99) #[.agg #[.slice A ws.length c,.slice z L.length o,.slice a 16 B,.slice y (aM l).length m,.map (some d)]] #[]] 166)).heap.size=J.heap.size+1+1:=by simp
  have b24:=((kqk J.heap.size J).alloc (kqa _) (.cells #[.slice A ws.length c,.slice z L.length o,.slice a 16 B,.slice y (aM l).length m,.map (some d)] 163)).alloc (by simp) (.cells #[.func (.func 95) #[.agg #[.slice A ws.length c,.slice z L.length o,.slice a 16 B,.slice y (aM l).length m,.map (some d)]] #[],.func (.func 96) #[.agg #[.slice A ws.length c,.slice z L.length o,.slice a 16 B,.slice y (aM l).length m,.map (some d)]] #[],.func (.func 97) #[.agg #[.slice A ws.length c,.slice z L.length o,.slice a 16 B,.slice y (aM l).length m,.map (some d)]] #[],.func (.func 98) #[.agg #[.slice A ws.length c,.slice z L.length o,.slice a 16 B,.slice y (aM l).length m,.map (some d)]] #[],.func (.func 99) #[.agg #[.slice A ws.length c,.slice z L.length o,.slice a 16 B,.slice y (aM l).length m,.map (some d)]] #[]] 166)
  have BX4:=(Bx.new J 163 #[.slice A ws.length c,.slice z L.length o,.slice a 16 B,.slice y (aM l).length m,.map (some d)]).alloc (.cells #[.func (.func 95) #[.agg #[.slice A ws.length c,.slice z L.length o,.slice a 16 B,.slice y (aM l).length m,.map (some d)]] #[],.func (.func 96) #[.agg #[.slice A ws.length c,.slice z L.length o,.slice a 16 B,.slice y (aM l).length m,.map (some d)]] #[],.func (.func 97) #[.agg #[.slice A ws.length c,.slice z L.length o,.slice a 16 B,.slice y (aM l).length m,.map (some d)]] #[],.func (.func 98) #[.agg #[.slice A ws.length c,.slice z L.length o,.slice a 16 B,.slice y (aM l).length m,.map (some d)]] #[],.func (.func 99) #[.agg #[.slice A ws.length c,.slice z L.length o,.slice a 16 B,.slice y (aM l).length m,.map (some d)]] #[]] 166)
  have BF4:=Bx.new (J.alloc (.cells #[.slice A ws.length c,.slice z L.length o,.slice a 16 B,.slice y (aM l).length m,.map (some d)] 163)) 166 #[.func (.func 95) #[.agg #[.slice A ws.length c,.slice z L.length o,.slice a 16 B,.slice y (aM l).length m,.map (some d)]] #[],.func (.func 96) #[.agg #[.slice A ws.length c,.slice z L.length o,.slice a 16 B,.slice y (aM l).length m,.map (some d)]] #[],.func (.func 97) #[.agg #[.slice A ws.length c,.slice z L.length o,.slice a 16 B,.slice y (aM l).length m,.map (some d)]] #[],.func (.func 98) #[.agg #[.slice A ws.length c,.slice z L.length o,.slice a 16 B,.slice y (aM l).length m,.map (some d)]] #[],.func (.func 99) #[.agg #[.slice A ws.length c,.slice z L.length o,.slice a 16 B,.slice y (aM l).length m,.map (some d)]] #[]];rw[kqm] at BF4;have C:=hid (λW (Q:Below J.heap.size J W)=>(And.intro (Lh.out.up Q Q.size) (And.intro (Lq.out.up Q Q.size) (And.intro (Lg.out.up Q Q.size) (eg Le.out (Q.block _ Ln))))));go_wp2_with fail
  obtain⟨M,Kx⟩:=xq ((J.alloc (.cells #[.slice A ws.length c,.slice z L.length o,.slice a 16 B,.slice y (aM l).length m,.map (some d)] 163)).alloc (.cells #[.func (.func 95) #[.agg #[.slice A ws.length c,.slice z L.length o,.slice a 16 B,.slice y (aM l).length m,.map (some d)]] #[],.func (.func 96) #[.agg #[.slice A ws.length c,.slice z L.length o,.slice a 16 B,.slice y (aM l).length m,.map (some d)]] #[],.func (.func 97) #[.agg #[.slice A ws.length c,.slice z L.length o,.slice a 16 B,.slice y (aM l).length m,.map (some d)]] #[],.func (.func 98) #[.agg #[.slice A ws.length c,.slice z L.length o,.slice a 16 B,.slice y (aM l).length m,.map (some d)]] #[],.func (.func 99) #[.agg #[.slice A ws.length c,.slice z L.length o,.slice a 16 B,.slice y (aM l).length m,.map (some d)]] #[]] 166));rw[Kx] at Kg b24 BX4 BF4 |-;have E:=hid b24;have N:=hid (Kn.out.trans (b24.mono Kb));have BX:=hid BX4;have BF:=hid BF4;have HS4:=hid Kg
  have Lt:Hid (∀k,k<5->JJ ws (gJ ws t 8) (aM l) k->∃f,(#[.func (.func 95) #[.agg #[.slice A ws.length c,.slice z L.length o,.slice a 16 B,.slice y (aM l).length m,.map (some d)]] #[],.func (.func 96) #[.agg #[.slice A ws.length c,.slice z L.length o,.slice a 16 B,.slice y (aM l).length m,.map (some d)]] #[],.func (.func 97) #[.agg #[.slice A ws.length c,.slice z L.length o,.slice a 16 B,.slice y (aM l).length m,.map (some d)]] #[],.func (.func 98) #[.agg #[.slice A ws.length c,.slice z L.length o,.slice a 16 B,.slice y (aM l).length m,.map (some d)]] #[],.func (.func 99) #[.agg #[.slice A ws.length c,.slice z L.length o,.slice a 16 B,.slice y (aM l).length m,.map (some d)]] #[]]:Array Value)[k]? = some f/\∀W,Below M.heap.size M W->Calls prog 100 #[.agg #[.slice A ws.length c,.slice z L.length o,.slice a 16 B,.slice y (aM l).length m,.map (some d)],f] W λe w'=>e=.returned (.bool ((aM l).all λb=>!wrK ws (gJ ws t 8) (aM l) (7+k) b))/\Below W.heap.size W w'):=hid λk hk Ky=>by
   have hP:=PQ.out;have F:∀W,Below M.heap.size M W->Below J.heap.size J W:=λW D=>E.out.trans (D.mono E.out.size);rw[<-Lr.out] at Ky |-;have Kl:=λW (D:Below M.heap.size M W)=>HR.out.up (Kn.out.trans ((F W D).mono Kb)) (kz3 Kb (F W D).size);have h8:2<=k->∀b∈aM l,wrK ws (L.map Ty.l) (aM l) 8 b=false:=λh b Q=>Ky 8 (by omega) (by omega) b Q;rcases (show k=0\/k=1\/k=2\/k=3\/k=4 by omega) with rfl|rfl|rfl|rfl|rfl
   .exact ⟨_,rfl,λW D=>El hP.bl V.out (C.out W (F W D)).1⟩
   .exact ⟨_,rfl,λW D=>zt hP.bl V.out rfl HK.out (C.out W (F W D)).1 (C.out W (F W D)).2.1⟩
   .exact ⟨_,rfl,λW D=>wN hP.bl V.out rfl (by omega) rfl HK.out (h8 (by omega)) (C.out W (F W D)).1 (C.out W (F W D)).2.1 (Kl W D)⟩
   .exact ⟨_,rfl,λW D=>wQ hP.bl V.out rfl (by omega) rfl Kv.out HK.out (h8 (by omega)) (C.out W (F W D)).1 (C.out W (F W D)).2.1 (Kl W D)⟩
   exact⟨_,rfl,λW D=>Fd hP.bl V.out rfl (by omega) rfl Kv.out HK.out (h8 (by omega)) (C.out W (F W D)).1 (C.out W (F W D)).2.1 (Kl W D) (C.out W (F W D)).2.2.2⟩
  have Lo:Hid (JJ ws (gJ ws t 8) (aM l) 0):=hid λr h1 h2=>by omega
  have Ls:=hid (λk h h1=>BG (ws:=ws) (T:=gJ ws t 8) (O:=aM l) (k:=k) h h1);have Lk:=hid (λk h h1=>FL (ws:=ws) (T:=gJ ws t 8) (O:=aM l) (k:=k) h h1);have Lj:J.heap.size+1<M.heap.size:=by omega
  have Ki:J.heap.size<M.heap.size:=by omega
  clear Kx Kg b24 BX4 BF4;go_loopw [36] (λi wr=>∃k:Nat,k<=5/\i=.int .i64 k/\Hid (JJ ws (gJ ws t 8) (aM l) k)/\Below M.heap.size M wr) (λi _=>5-(intOf i).toNat)
  case atStart=>exact⟨0,by omega,rfl,Lo,kqk _ _⟩
  obtain⟨k,hk,rfl,HT,G⟩:=hrel;by_cases H:k<5
  .obtain ⟨f,hf,hC⟩:=Lt.out k H HT.out;have hc0:=(G.cell (p:=⟨J.heap.size+1,k,none⟩) Lj).trans ((BF.out.cell k).trans hf);have HC:=hid (hC wr G);have Kw:=hid (Ls.out k HT.out);have Ku:=hid (Lk.out k H);obtain⟨q,hq⟩:=xq (((aM l).all λb=>!wrK ws (gJ ws t 8) (aM l) (7+k) b));rw[hq] at HC Kw Ku;obtain⟨q0,q1,q2,q3,q4,-,-⟩:=(BX.out.up G Ki).c5;have Ka:=hid G;have hz:=G.size;have hki:(k:Int)<5:=by omega
   have hk0:(0:Int)<=(k:Int):=by omega
   clear hf hC hq G;cases q
   .have K:=hid (Z.out (7+k) (by omega) (by
     cases hq:lay ws with
     | false=>rfl
     | true=>exact absurd (Kf.out.1 hq).2.2.2.2.2.1 (Ku.out rfl)))
    go_wp2_with fail;refine HC.out.mono ?_;rintro e w5 ⟨rfl,R⟩;have Kj:=hid (N.out.trans ((Ka.out.trans (R.mono hz)).mono N.out.size));clear R;go_wp2;go_ret2;exact⟨K.out,Kj.out⟩
   have K:=hid (Kw.out rfl);go_wp2_with fail;refine HC.out.mono ?_;rintro e w5 ⟨rfl,R⟩;have Kj:=hid (Ka.out.trans (R.mono hz));clear R;go_wp2;go_roundw
   case rel=>exact⟨k+1,by omega,by go_num,K,Kj.out⟩
   case measure=>simp[intOf];omega
  have Ll:=hid (show JJ ws (gJ ws t 8) (aM l) 5 from λr h1 h2 b Q=>HT.out r h1 (by omega) b Q);have Kc:decide ((k:Int)<5)=false:=by rw[kqc];omega
  have Y:decide (k<5)=false:=by rw[kqc];exact H
  obtain⟨-,-,q2,-,-,-,-⟩:=(BX.out.up G Ki).c5;have Ka:=hid G;clear H hk HT G;go_wp2_with fail;have Lm:Hid (mZ (aM l) (slL ws) 0):=hid λi h h1=>by omega
  have Lc:=hid (λk hk h h1=>rD (O:=aM l) (S:=slL ws) (k:=k) hk h h1);have Kz:=hid (fg ws);have Lf:Hid (mZ (aM l) (slL ws) 16->lay ws=true):=hid λh=>Kf.out.2 ⟨PQ.out.z1,PQ.out.z2,PQ.out.tys,PQ.out.sls,PQ.out.adj,Ll.out,λs hs=>by
   obtain⟨i,hi,rfl⟩:=kqz hs;exact h i hi (by rw[Kz.out] at hi;exact hi)⟩
  have Lb:Hid (∀k (hk:k<(slL ws).length),jV (aM l) (slL ws)[k]=false->lay ws=false):=hid λk hk h=>by
   cases hq:lay ws with
   | false=>rfl
   | true=>rw[(Kf.out.1 hq).2.2.2.2.2.2 _ (kqq hk)] at h;cases h
  have La:Hid (∀k (hk:k<(slL ws).length),∃g v:Nat,(slL ws)[k]=⟨(g:Int),(slL ws)[k].used,(v:Int)⟩/\v<4294967296):=hid λk hk=>by
   rw[nz ws hk];exact⟨_,_,rfl,kzz _ (by decide)⟩
  clear Kc Y q2;go_loopw [51] (λi wr=>∃k:Nat,k<=16/\i=.int .i64 k/\Hid (mZ (aM l) (slL ws) k)/\Below M.heap.size M wr) (λi _=>16-(intOf i).toNat)
  case atStart=>exact⟨0,by omega,rfl,Lm,Ka.out⟩
  obtain⟨j,hj,rfl,HT,G⟩:=hrel;by_cases H:j<16
  .have U:j<(slL ws).length:=by rw[Kz.out];exact H
   obtain⟨bS,oS,rfl,hbS,p0,p1,p2⟩:=RdS.at_ (show RdS wr wr.heap.size a (slL ws) from (C.out wr (E.out.trans (G.mono E.out.size))).2.2.1) U;obtain⟨g,v,hx,hv⟩:=La.out j U;have Kh:=hid (Lc.out j U HT.out);have Ks:=hid (Lb.out j U);obtain⟨x,Kq⟩:=xq ((slL ws)[j]);rw[Kq] at p0 p1 p2 hx Kh Ks;obtain⟨u,hu⟩:=xq x.used;rw[hu] at p1 hx;subst hx;dsimp only at p0 p2;have hjj:(j:Int)<16:=by omega
   have hj0:(0:Int)<=(j:Int):=by omega
   obtain⟨-,-,-,-,q4,-,-⟩:=(BX.out.up G Ki).c5;have hgw:J.heap.size<wr.heap.size:=by have:=G.size;omega
   have hz:=G.size;have Km:=hid (G.alloc hz (.cells #[.int .i64 (g:Int),.bool u,.int .i64 (v:Int)] 52));have Li:=hid ((C.out wr (E.out.trans (G.mono E.out.size))).2.2.2.alloc (.cells #[.int .i64 (g:Int),.bool u,.int .i64 (v:Int)] 52));clear Kq hu U G;cases u
   .have K:=hid (Kh.out rfl);go_wp2;go_roundw
    case rel=>exact⟨j+1,by omega,by go_num,K,Km.out⟩
    case measure=>simp[intOf];omega
   have Kr:(Lit.int .i64 (v:Int)).wf=true:=by simp[Lit.wf,IntKind.min,IntKind.max,IntKind.signed,IntKind.bits];omega
   have Lp:=iS Li.out nT underlying161 underlying4 (mR _) (keyOf_int_mk (P:=prog) underlying3 Kr) (c:=my (aM l) v) (by rw[ni,uV]);have Kp:Hid (jV (aM l) ⟨(g:Int),true,(v:Int)⟩=my (aM l) v):=hid (by unfold jV;simp);obtain⟨q,hq⟩:=xq (my (aM l) v);rw[hq] at Lp Kp;clear Kr hq hv;cases q
   .have K:=hid (Z.out 12 (by decide) (Ks.out Kp.out));go_wp2;go_ret2;exact⟨K.out,N.out.trans (Km.out.mono N.out.size)⟩
   have K:=hid (Kh.out Kp.out);go_wp2;go_roundw
   case rel=>exact⟨j+1,by omega,by go_num,K,Km.out⟩
   case measure=>simp[intOf];omega
  have Kc:decide ((j:Int)<16)=false:=by rw[kqc];omega
  have Y:decide (j<16)=false:=by rw[kqc];exact H
  have K:=hid (Ke.out (Lf.out (by have:=HT.out;rwa [show j=16 by omega] at this)));clear H hj HT;go_wp2;go_ret2;exact⟨K.out,N.out.trans (G.mono N.out.size)⟩
 obtain⟨hl,rfl⟩:=X h0;have K:=hid (Z.out r (by omega) hl);have e1:(r != 0)=true:=by rw[kqv];exact h0
 clear X I;go_wp2;go_ret2;exact⟨K.out,Kn.out.alloc Kb _⟩
theorem Av(A:Option Addr)(ws:List Nat)(c n:Nat)(w:World)(hn:ws.length=n)(hm:n<=9223372036854775807)(hc:n<=c)(hr:RdW w w.heap.size A ws)(ho:∀x∈ws,x<18446744073709551616):
 Calls prog 16 #[.slice A n c] w λe w'=>e=.returned (.int .i64 (bN ws))/\Below w.heap.size w w':=by
 subst hn;have f:=hid (yw A ws c ws.length w rfl hm hc hr ho);unfold AX at f;clear hr ho hc hm;cases d:aj (ws.length:Int)
 .have g:Hid (bN ws=8):=hid (by unfold bN;rw[d];rfl);rw[bI d] at f;clear d;go_enter func16,ntmps16;go_wp2_with fail;refine f.out.mono ?_;rintro e o ⟨⟨r,rfl,-,-⟩,a⟩;go_wp2;go_ret;exact⟨by rw[g.out];rfl,a⟩
 have g:Hid (bN ws=if lay ws=true then 0 else 50):=hid (by unfold bN;rw[d];rfl);rw[aZ d] at f;have m:=hid d;clear d;go_enter func16,ntmps16;go_wp2_with fail;refine f.out.mono ?_;rintro e o ⟨⟨r,rfl,l,i⟩,a⟩;have j:=hid (i m.out);clear i;by_cases b:r=0
 .have h:=hid (j.out.1 b);subst b;go_wp2;go_ret;exact⟨by rw[g.out,h.out];rfl,a⟩
 have h:Hid (lay ws=false):=hid (by
  cases k:lay ws with
  | false=>rfl
  | true=>exact absurd (j.out.2 k) b)
 have d1:decide ((0:Int)<r)=true:=by rw[kqn];omega
 clear b l;go_wp2;go_ret;exact⟨by rw[g.out,h.out];rfl,a⟩
end Go.Proofs.YtpcajamacpbjcaaGreat
