import Derived.Test.YtpcajamacpbjcaaGreatZGVe
set_option maxHeartbeats 16000000
set_option maxRecDepth 100000
set_option linter.all false
namespace Go.Proofs.YtpcajamacpbjcaaGreat
open Go.RowKit
variable {a:Act}{f i:Nat}{o oi:Oper}{v:Value}{w w1 w2:World}
open Go.Proofs.Tryz
section
variable {P:Program} {ops:Array Oper} {Q:Exit->Act->World->Prop} {md:Region.Mode} {S:World->Prop} {L:Nat}
def wpL (P:Program) (md:Region.Mode) (ops:Array Oper) (Q:Exit->Act->World->Prop) (S:World->Prop) (L:Nat):Nat->Array Bool->Act->World->Prop
 | 0,ls,a,w=>Region.ready md ops ls=[]/\Q .normal a w
 | f+1,ls,a,w=>(Region.ready md ops ls=[]->Q .normal a w)/\∀i∈Region.ready md ops ls,wpOp P ops Q i (λa' w'=>(i≠L->S w')/\wpL P md ops Q S L f (ls.setIfInBounds i true) a' w') a w
theorem Hk:∀(f:Nat) (b:Array Bool) (a:Act) (w:World),wpL P md ops Q S L f b a w->wpAny P md ops Q f b a w:=by
 intro f
 induction f with
 | zero=>exact λ_ _ _ h=>h
 | succ f d=>exact λb a w h=>⟨h.1,λi c=>wpOp_mono (λa e b=>d _ a e b.2) (h.2 i c)⟩
def wv (md:Region.Mode) (ops:Array Oper) (L i:Nat):Bool:=match ops[L]? with
 | none=>true
 | some o=>o.after.any λe=>Region.binds md e&&e.on==i
theorem uF{ls:Array Bool}(h:ls.getD i true=false):ls.getD i false=false:=by
 rcases kq8 i ls.size with a|a
 .simp[a] at h |-;exact h
 simp[Array.getElem?_eq_none a] at h
theorem DX{ls:Array Bool}(h:wv md ops L i=true)(g:i∈Region.ready md ops ls):L ∉ Region.ready md ops ls:=λb=>by obtain⟨-,o,f,a⟩:=mem_ready.1 b;unfold wv at h;rw[f] at h;obtain⟨e,d,b⟩:=Array.any_eq_true'.1 h;simp only[kqs,kqw] at b;have c:=a e d b.1;rw[b.2,uF (mem_ready.1 g).1] at c;cases c
theorem FR(r:ops[i]? = some oi)(E:Region.noSelect ops=true)(F:wv md ops L i=true)(C:∀c a w,Q (.panic c) (a.put oi.dst v) w->Q (.panic c) a w):
 ∀ {f:Nat} {l:Array Bool} {a:Act} {w:World},Region.free md ops l i=true->(Region.ready md ops l).contains i=true->YieldsIf P ops S oi v a->S w->wpL P md ops Q S L f (l.setIfInBounds i true) (a.put oi.dst v) w->wpL P md ops Q S L (f+1) l a w:=by
 intro f
 induction f with
 | zero =>
  intro l a w _ m x o H;have m:i∈Region.ready md ops l:=by simpa using m
  refine⟨λh=>(by rw[h] at m;cases m),λj k=>?_⟩;by_cases d:j=i
  .subst d;exact x.wpOp r o ⟨λ_=>o,H⟩
  have n:=ready_mono k d;rw[H.1] at n;cases n
 | succ f G =>
  intro l a w q m x o H;have g:i∈Region.ready md ops l:=by simpa using m
  refine⟨λh=>(by rw[h] at g;cases g),λj k=>?_⟩;by_cases d:j=i
  .subst d;exact x.wpOp r o ⟨λ_=>o,H⟩
  have z:j≠L:=λe=>DX F g (e ▸ k);obtain⟨u,A,h,p⟩:=mem_ready.1 k;have t:∀e∈A.after,Region.binds md e=true->e.on≠i:=λe y s b=>by
   have n:=p e y s;rw[b,uF (mem_ready.1 g).1] at n;cases n
  have s:=Region.noSelect_spec E;have B:=wpOp_putIf h (Region.free_spec r q j A h d u t) (λe b=>s i oi e b r) (λe b=>s j A e b h) C x (H.2 j (ready_mono k d));have y:Region.free md ops (l.setIfInBounds j true) i=true:=by
   unfold Region.free at q |-;rw[r] at q |-;rw[kzt] at q |-;intro k D;have b:=q k D;simp only[kxw] at b |-;rcases b with (b|b) | b
   .exact .inl (.inl b)
   .refine .inl (.inr ?_);by_cases e:j=k
    .subst e;rw[u] at b;cases b
    rw[getD_set_ne true e];exact b
   exact .inr b
  refine wpOp_mono (λa' w' b=>⟨b.2.1,G y (by simpa using ready_mono g (Ne.symm d)) b.1 (b.2.1 z) ?_⟩) B;rw[Array.setIfInBounds_comm _ _ d];exact b.2.2
theorem G9{ls:Array Bool}(e:Region.ready md ops ls=[i])(g:ops[i]? = some o)(k:Region.wanted o (yielded ops a.tmps)=true)(h:∀K:Act->World->Prop,(∀c b,(i≠L->S b)->wpL P md ops Q S L f (ls.setIfInBounds i true) c b->K c b)->o.wp P a w K Q):wpL P md ops Q S L (f+1) ls a w:=by refine⟨λd=>(by rw[e] at d;cases d),λj d=>?_⟩;rw[e,kq2] at d;subst d;unfold wpOp;simp only[g,k,if_true];exact .inl (h _ λc b b c=>⟨b,c⟩)
theorem DG{ls:Array Bool}(c:Region.ready md ops ls=[])(h:Q .normal a w):∀f,wpL P md ops Q S L f ls a w
 | 0=>⟨c,h⟩
 | _+1=>⟨λ_=>h,λi b=>(by rw[c] at b;cases b)⟩
theorem wl{ls:Array Bool}(i:Nat)(v:Value)(h:wpL P md ops Q S L f (ls.setIfInBounds i true) (a.put oi.dst v) w)(j:ops[i]? = some oi:=by rfl)(l:Region.noSelect ops=true:=by kernel_rfl)(n:wv md ops L i=true:=by kernel_rfl)(b:∀c a w,Q (.panic c) (a.put oi.dst v) w->Q (.panic c) a w:=by exact λ_ _ _ h=>h)(g:Region.free md ops ls i=true:=by kernel_rfl)(k:(Region.ready md ops ls).contains i=true:=by kernel_rfl)(m:Region.wanted oi (yielded ops a.tmps)=true:=by kernel_rfl)(d:S w:=by assumption)(hy:∀w,S w->(execOp a.eval oi).run P w=.ok (.value v) w:=by (intro X e;(try dsimp only at e);go_simp)):wpL P md ops Q S L (f+1) ls a w:=FR j l n b g k (.inl ⟨m,hy⟩) d h
theorem wo{ls:Array Bool}(i:Nat)(h:∀K:Act->World->Prop,(∀a' w',(i≠L->S w')->wpL P md ops Q S L f (ls.setIfInBounds i true) a' w'->K a' w')->o.wp P a w K Q)(c:Region.ready md ops ls=[i]:=by kernel_rfl)(b:ops[i]? = some o:=by rfl)(d:Region.wanted o (yielded ops a.tmps)=true:=by kernel_rfl):wpL P md ops Q S L (f+1) ls a w:=G9 c b d h
theorem wz{ls:Array Bool}(h:Q .normal a w)(b:Region.ready md ops ls=[]:=by kernel_rfl):wpL P md ops Q S L f ls a w:=DG b h f
theorem fN{id:Nat}(L:Nat)(S:World->Prop)(c:P.follows .mixedOrders=true)(b:S w.drew)(h:S w.drew->wpL P .any ops Q S L ops.size (Array.replicate ops.size false) a w.drew):(Code.region id ops true).wp P Q a w:=
 wp_region_any c (Hk _ _ _ _ (h b))
end
structure NdAt (w:World) (H K g n m:Nat) (A:Option Addr) (c:Nat) (DA:Option Addr) (dc:Nat) (lf:Int) (dn:Bool) (A1:Option Addr) (c1:Nat) (im:List Nat) (o:List Dw) (v:Value) (l2:Int) (b2:Bool) (wr:World):Prop where
 b0:Bx wr w.heap.size 79 #[.slice A n c,.slice DA m dc,.int .i64 lf,.bool dn]
 b1:Bx wr (w.heap.size+1) 79 #[.slice none 0 0,.slice none 0 0,.int .i64 0,.bool false]
 b7:Bx wr g 79 #[.slice A1 n c1,v,.int .i64 l2,.bool b2]
 oi:wr.ownsRow H 53 1 (.slice A1 n c1) n (im.flatMap ap)
 oq:wr.ownsRow K 92 3 v o.length (o.flatMap Dw.cells)
 ni:∀k,(Value.slice A1 n c1).ownBlock=some k->k<g
 nq:∀k,v.ownBlock=some k->k≠g
 hg:w.heap.size+1<H/\H<=g/\w.heap.size+1<K
 len:im.length=n
 cap:n<=c1
 be:Below w.heap.size w wr
section
variable {w wr:World} {H K g n m c dc c1:Nat} {A DA A1:Option Addr} {lf l2:Int} {dn b2:Bool} {im:List Nat} {o:List Dw} {v:Value}
theorem NdAt.up(h:NdAt w H K g n m A c DA dc lf dn A1 c1 im o v l2 b2 wr)(a:Below wr.heap.size wr w2):NdAt w H K g n m A c DA dc lf dn A1 c1 im o v l2 b2 w2:=
 ⟨h.b0.up a h.b0.lt,h.b1.up a h.b1.lt,h.b7.up a h.b7.lt,ag h.oi a (kqa _),ag h.oq a (kqa _),h.ni,h.nq,h.hg,h.len,h.cap,h.be.trans (a.mono h.be.size)⟩
theorem NdAt.st(h:NdAt w H K g n m A c DA dc lf dn A1 c1 im o v l2 b2 wr)(i:Nat)(u:Value){l3:Int}{b3:Bool}(a:#[.slice A1 n c1,v,.int .i64 l2,.bool b2].setIfInBounds i u=#[.slice A1 n c1,v,.int .i64 l3,.bool b3]):NdAt w H K g n m A c DA dc lf dn A1 c1 im o v l3 b3 (wr.setCell ⟨g,i,none⟩ u):=by obtain⟨h1,h2,h3⟩:=h.hg;exact⟨h.b0.far (p:=⟨g,i,none⟩) (show w.heap.size≠g by omega) u,h.b1.far (p:=⟨g,i,none⟩) (show w.heap.size+1≠g by omega) u,a ▸ h.b7.set_ i u,ar h.oi (p:=⟨g,i,none⟩) (λe=>by have:=h.ni _ e;dsimp only at this;omega) u,ar h.oq (p:=⟨g,i,none⟩) (λe=>h.nq _ e rfl) u,h.ni,h.nq,h.hg,h.len,h.cap,h.be.setCell (p:=⟨g,i,none⟩) (by dsimp only;omega) u⟩
theorem NdAt.none_(h:NdAt w H K g n m A c DA dc lf dn A1 c1 im o v l2 b2 wr):NdAt w H (g+1) g n m A c DA dc lf dn A1 c1 im [] (.slice none 0 0) l2 b2 (wr.setCell ⟨g,1,none⟩ (.slice none 0 0)):=by obtain⟨a,b,h3⟩:=h.hg;exact⟨h.b0.far (p:=⟨g,1,none⟩) (show w.heap.size≠g by omega) _,h.b1.far (p:=⟨g,1,none⟩) (show w.heap.size+1≠g by omega) _,h.b7.set_ 1 _,ar h.oi (p:=⟨g,1,none⟩) (λe=>by have:=h.ni _ e;dsimp only at this;omega) _,kq3 _ _ _ _,h.ni,(λk d=>by cases d),⟨a,b,by omega⟩,h.len,h.cap,h.be.setCell (p:=⟨g,1,none⟩) (by dsimp only;omega) _⟩
theorem NdAt.app(h:NdAt w H (g+1) g n m A c DA dc lf dn A1 c1 im o v l2 b2 wr){v2:Value}{x:List Dw}(f:w2.ownsRow (g+1) 92 3 v2 x.length (x.flatMap Dw.cells))(b:wr.grownBy w2 v.ownBlock):Bx w2 w.heap.size 79 #[.slice A n c,.slice DA m dc,.int .i64 lf,.bool dn]/\Bx w2 g 79 #[.slice A1 n c1,v,.int .i64 l2,.bool b2]/\Below w.heap.size w w2/\NdAt w H (g+1) g n m A c DA dc lf dn A1 c1 im x v2 l2 b2 (w2.setCell ⟨g,1,none⟩ v2):=by
 obtain⟨h1,h2,h3⟩:=h.hg;have a:∀k,v.ownBlock=some k->g+1<=k:=λk d=>(h.oq.lt k d).1;have l:Below w.heap.size w w2:=h.be.grown b h.be.size (λk d=>by have:=a k d;omega);have i:some w.heap.size≠v.ownBlock:=λe=>by have:=a _ e.symm;omega
 have q:some (w.heap.size+1)≠v.ownBlock:=λe=>by have:=a _ e.symm;omega
 have j:some g≠v.ownBlock:=λe=>by have:=a _ e.symm;omega
 refine⟨h.b0.grown b i,h.b7.grown b j,l,(h.b0.grown b i).far (p:=⟨g,1,none⟩) (show w.heap.size≠g by omega) v2,(h.b1.grown b q).far (p:=⟨g,1,none⟩) (show w.heap.size+1≠g by omega) v2,(h.b7.grown b j).set_ 1 v2,ar (cd h.oi b ?_) (p:=⟨g,1,none⟩) (λe=>by have:=h.ni _ e;dsimp only at this;omega) v2,ar f (p:=⟨g,1,none⟩) (bI f (kjq _)).symm v2,h.ni,(λk d=>by have:=(f.lt k d).1;omega),h.hg,h.len,h.cap,l.setCell (p:=⟨g,1,none⟩) (by dsimp only;omega) v2⟩;cases d:(Value.slice A1 n c1).ownBlock with
 | none=>exact .inl rfl
 | some k=>exact .inr λe=>by have:=h.ni k d;have:=a k e.symm;omega
theorem NdAt.fl{q dq:Nat}(h:NdAt w H K g n m A c DA dc lf dn A1 c1 im o (.slice (some ⟨q,0,none⟩) o.length dq) l2 b2 wr)(hK:w.heap.size+1<K)(i:Nat)(u:Value){o2:List Dw}(f:o2.length=o.length)(d:o2.flatMap Dw.cells=(o.flatMap Dw.cells).set i u):NdAt w H K g n m A c DA dc lf dn A1 c1 im o2 (.slice (some ⟨q,0,none⟩) o.length dq) l2 b2 (wr.setCell ⟨q,i,none⟩ u):=by
 have h1:=(h.oq.lt q rfl).1;have b:=(h.oq.stored i u).1;rw[<-d] at b;refine⟨h.b0.far (p:=⟨q,i,none⟩) (show w.heap.size≠q by omega) u,h.b1.far (p:=⟨q,i,none⟩) (show w.heap.size+1≠q by omega) u,h.b7.far (p:=⟨q,i,none⟩) (show g≠q from λe=>h.nq q rfl e.symm) u,ar h.oi (p:=⟨q,i,none⟩) (λe=>?_) u,by rw[f];exact b,h.ni,h.nq,h.hg,h.len,h.cap,h.be.setCell (p:=⟨q,i,none⟩) (by dsimp only;omega) u⟩;rcases gR h.oi h.oq (by decide) with a|a
 .rw[e] at a;cases a
 exact a e
theorem NdAt.img{gi:Nat}(h:NdAt w H K g n m A c DA dc lf dn (some ⟨gi,0,none⟩) c1 im o v l2 b2 wr)(a x:Nat):NdAt w H K g n m A c DA dc lf dn (some ⟨gi,0,none⟩) c1 (im.set a x) o v l2 b2 (wr.setCell ⟨gi,a,none⟩ (.int .u64 (x:Int))):=by
 have h1:=(h.oi.lt gi rfl).1;have h3:=h.ni gi rfl;have d:=(h.oi.stored a (.int .u64 (x:Int))).1;rw[<-kU] at d;obtain⟨h5,-⟩:=h.hg;refine⟨h.b0.far (p:=⟨gi,a,none⟩) (show w.heap.size≠gi by omega) _,h.b1.far (p:=⟨gi,a,none⟩) (show w.heap.size+1≠gi by omega) _,h.b7.far (p:=⟨gi,a,none⟩) (show g≠gi by omega) _,d,ar h.oq (p:=⟨gi,a,none⟩) (λe=>?_) _,h.ni,h.nq,h.hg,by rw[kq5];exact h.len,h.cap,h.be.setCell (p:=⟨gi,a,none⟩) (by dsimp only;omega) _⟩;rcases gR h.oi h.oq (by decide) with b|b
 .cases b
 exact b e.symm
theorem NdAt.done{DA1:Option Addr}{dc1:Nat}(h:NdAt w H K g n m A c DA dc lf dn A1 c1 im o (.slice DA1 o.length dc1) l2 b2 wr){w9:World}(a:fT wr w9 (w.heap.size+1)):iE w9 w.heap.size ⟨im,o,l2,b2⟩ (.agg #[.slice A1 n c1,.slice DA1 o.length dc1,.int .i64 l2,.bool b2])/\Below w.heap.size w w9:=by obtain⟨b,h2,d⟩:=h.hg;have e:=h.len;subst e;exact⟨⟨A1,c1,DA1,dc1,rfl,h.cap,ab (ak h.oi a b) (by omega),ab (ak h.oq a d) (by omega)⟩,a.below h.be (by omega)⟩
theorem vJ{W0:World}{dw:List Dw}{u:Value}(r:Bx W0 w.heap.size 79 #[.slice A n c,.slice DA m dc,.int .i64 lf,.bool dn])(i:Bx W0 (w.heap.size+1) 79 #[.slice none 0 0,.slice none 0 0,.int .i64 0,.bool false])(o:Below w.heap.size w W0)(g:Below W0.heap.size W0 w1)(f:im.length=n)(t:iE w1 W0.heap.size ⟨im,dw,l2,b2⟩ u):
 ∃d e a b,u=.agg #[.slice d n e,.slice a dw.length b,.int .i64 l2,.bool b2]/\∃W1,w1.alloc (.cells #[.slice d n e,.slice a dw.length b,.int .i64 l2,.bool b2] 79)=W1/\NdAt w W0.heap.size W0.heap.size w1.heap.size n m A c DA dc lf dn d e im dw (.slice a dw.length b) l2 b2 W1:=by obtain⟨d,e,a,b,rfl,s,j,l⟩:=t;subst f;have q:=g.size;have p:=i.lt;have f:=(kqe w1.heap.size w1).alloc (kqa _) (.cells #[.slice d im.length e,.slice a dw.length b,.int .i64 l2,.bool b2] 79);exact⟨d,e,a,b,rfl,_,rfl,(r.up g r.lt).up f (by omega),(i.up g i.lt).up f (by omega),Bx.new _ _ _,ag j f (kqa _),ag l f (kqa _),λk h=>(j.lt k h).2,λk h=>by have:=(l.lt k h).2;omega,⟨p,q,p⟩,rfl,s,o.trans ((g.trans (f.mono q)).mono o.size)⟩
end
theorem yP(v:Value)(d:Dv)(w:World)(h:gV w v d)(t:d.im.length<=1000000)(s:d.dw.length<=1000000)(E : -1<=d.left/\d.left<=1000000):
 Calls prog 272 #[v] w λe a=>(∃u,e=.returned (.tuple #[u,.bool (decide (d.left≠0))])/\iE a w.heap.size (dvB d) u)/\Below w.heap.size w a:=by
 obtain⟨B,l⟩:=yq0 (λW (h:gV W v d)=>rB v d W h t s) h;obtain⟨A,c,H,J,rfl,r,y,D⟩:=h;obtain⟨p,h,f,i⟩:=d;dsimp only at B t s E l |-;obtain⟨n,g⟩:=xq p.length;rw[g] at B l |-;obtain⟨C,b,k,o,a,j⟩:=gP w A H f i n c h.length J;obtain⟨z,x,I⟩:=yq1 (λF u (q:Below C.heap.size C F) x=>vJ (l2:=f) (b2:=i) (dw:=h) (u:=u) (m:=h.length) k o a q g x) a k;clear y D k o a g r j;go_enter func272,ntmps272;go_wp2_with ((with_reducible refine av 79 (.tmp 1) ?_);refine ldD I.out ?_);clear b;refine (B.out C (l.out.up x.out)).mono ?_;rintro e F ⟨⟨_,rfl,b⟩,a⟩;obtain⟨u,D,k,o,rfl,W1,hW1,g⟩:=z.out _ _ a b;have y:=y5 g;obtain⟨r0,r1,r2,r3,-⟩:=g.b0.c4;obtain⟨s0,s1,s2,s3,sf0,sf1,sf2,sf3,slt⟩:=g.b7.c4;clear b a g;by_cases g:f=0
 .subst g;have q:Hid (dvB ⟨p,h,0,i⟩=⟨p,h,0,true⟩):=y5 (by unfold dvB dvD;rw[if_pos rfl]);obtain⟨j,a⟩:=yq0 (show decide ((0:Int)≠0)=false from rfl) (y.out.st 3 (.bool true) (l3:=0) (b3:=true) rfl);go_wp2_with (first
   | ((with_reducible refine av 79 (.tmp 4) ?_);refine ldD a.out.b7 ?_)
   | ((with_reducible refine aj 79 (.tmp 2) _ ?_);refine stD a.out.b1 ?_;intro G e b))
  exact kqq (v:=.tuple #[.agg #[.slice u n D,.slice k h.length o,.int .i64 (0),.bool true],.bool false]) (aF results272 _ e.out rfl rfl rfl) rfl ⟨⟨_,by rw[j.out],by rw[q.out];exact (a.out.done b.out).1⟩,(a.out.done b.out).2⟩
 have e0:(f==0)=false:=by rw[kqc];exact g
 have j:=y5 (decide_eq_true (show f≠0 from g));by_cases r:0<f
 .have q:Hid (dvB ⟨p,h,f,i⟩=⟨p,h,f-1,i⟩):=y5 (by unfold dvB dec;rw[if_neg g];dsimp only;rw[if_pos r]);have hw1:IntKind.i64.wrap (f-1)=f-1:=kqo _ (by omega);have a:=y5 (y.out.st 2 (.int .i64 (f-1)) (l3:=f-1) (b3:=i) rfl);clear g;go_wp2_with (first
   | ((with_reducible refine av 79 (.tmp 4) ?_);refine ldD a.out.b7 ?_)
   | ((with_reducible refine aj 79 (.tmp 2) _ ?_);refine stD a.out.b1 ?_;intro G e b))
  exact kqq (v:=.tuple #[.agg #[.slice u n D,.slice k h.length o,.int .i64 (f-1),.bool i],.bool true]) (aF results272 _ e.out rfl rfl rfl) rfl ⟨⟨_,by rw[j.out],by rw[q.out];exact (a.out.done b.out).1⟩,(a.out.done b.out).2⟩
 have q:Hid (dvB ⟨p,h,f,i⟩=⟨p,h,f,i⟩):=y5 (by unfold dvB dec;rw[if_neg g];dsimp only;rw[if_neg r]);have a:=y;clear g;go_wp2_with (first
  | ((with_reducible refine av 79 (.tmp 4) ?_);refine ldD a.out.b7 ?_)
  | ((with_reducible refine aj 79 (.tmp 2) _ ?_);refine stD a.out.b1 ?_;intro G e b))
 exact kqq (v:=.tuple #[.agg #[.slice u n D,.slice k h.length o,.int .i64 (f),.bool i],.bool true]) (aF results272 _ e.out rfl rfl rfl) rfl ⟨⟨_,by rw[j.out],by rw[q.out];exact (a.out.done b.out).1⟩,(a.out.done b.out).2⟩
theorem t7{d:Dv}(h:gV w v d)(B:fg d=true)(E:d.dw.length<=100000):∃A c o q g a b f n l j mk p,v=.agg #[.slice A n c,.slice o a.length q,.int .i64 b,.bool f]/\d=⟨g,a,b,f⟩/\(mk=false->dvD d=⟨g,a,l,j⟩/\b=0)/\(mk=true->l=dec b/\j=f/\b≠0)/\g.length=n/\n<=2048/\0<n/\a.length<=100000/\fP n a (-1)=true/\RdQ w w.heap.size o a/\(w.alloc (.cells #[.slice A n c,.slice o a.length q,.int .i64 b,.bool f] 79)).alloc (.cells #[.slice none 0 0,.slice none 0 0,.int .i64 0,.bool false] 79)=p/\Bx p w.heap.size 79 #[.slice A n c,.slice o a.length q,.int .i64 b,.bool f] /\
 Calls prog 272 #[.agg #[.slice A n c,.slice o a.length q,.int .i64 b,.bool f]] p λe D=>∃s t i k,e=.returned (.tuple #[.agg #[.slice s n t,.slice i a.length k,.int .i64 l,.bool j],.bool mk])/\∃W1,D.alloc (.cells #[.slice s n t,.slice i a.length k,.int .i64 l,.bool j] 79)=W1/\NdAt w p.heap.size p.heap.size D.heap.size n a.length A c o q b f s t g a (.slice i a.length k) l j W1:=by
 have y:=(cq _).1 B;have O:=(ae _).1 y.1;have K:=h;obtain⟨A,c,o,q,rfl,L,M,F⟩:=h;obtain⟨g,a,b,f⟩:=d;obtain⟨p,z,G,P,x,hz0⟩:=gP w A o b f g.length c a.length q;have r:=yP _ _ p (K.up x) (by omega) (by omega) ⟨y.2.1,y.2.2.1⟩;dsimp only at O y L M F E r;obtain⟨l,j,H,I,J⟩:∃l j,dvB ⟨g,a,b,f⟩=⟨g,a,l,j⟩/\(decide (b≠0)=false->dvD ⟨g,a,b,f⟩=⟨g,a,l,j⟩/\b=0)/\(decide (b≠0)=true->l=dec b/\j=f/\b≠0):=by
  by_cases u:b=0
  .subst u;exact⟨_,_,by unfold dvB;rw[if_pos rfl];rfl,λ_=>⟨rfl,rfl⟩,λh=>absurd h (by decide)⟩
  exact⟨_,_,by unfold dvB;rw[if_neg u],λh=>absurd u (by simpa using h),λ_=>⟨rfl,rfl,u⟩⟩
 rw[H] at r;refine⟨A,c,o,q,g,a,b,f,g.length,l,j,decide (b≠0),p,rfl,rfl,I,J,rfl,by omega,by omega,E,y.2.2.2.2,F,z,G,r.mono ?_⟩;rintro e D ⟨⟨u,rfl,N⟩,h⟩;obtain⟨s,t,i,k,rfl,C⟩:=vJ (m:=a.length) G P x h rfl N;exact⟨s,t,i,k,rfl,C⟩
theorem rz(v:Value)(d:Dv)(a:Nat)(w:World)(h:gV w v d)(j:fg d=true)(i:d.dw.length<=100000)(ha:a<2400):
 Calls prog 234 #[v,.int .i64 (a:Int)] w λe b=>jo w (dvF d (a:Int)) e b:=by
 obtain⟨A,c,DA,dc,E,f,lf,W,n,l2,U,mk,W0,rfl,rfl,p,q,x,hn2,hn0,hm,o,s,r,t,m⟩:=t7 h j i;obtain⟨S,T,b,HQ,g,Q,P⟩:=yq5 p q m s t (fc o) (λk (Z:k<f.length) R u=>uI (a:=(a:Int)) (l:=f) (k:=k) Z R u);have O:Hid (flQ (a:Int) f=flQ (a:Int) (f.take f.length)++f.drop f.length):=y5 (by rw[kzb,kj2,kzf]);unfold jo;clear p q x o s t m h j i;go_enter func234,ntmps234;go_wp2_with ((with_reducible refine av 79 (.tmp 2) ?_);refine ldD g.out ?_);clear r;refine b.out.mono ?_;rintro e w1 ⟨A1,c1,N,V,rfl,W1,C,i⟩;have h:=y5 i;obtain⟨r0,r1,r2,r3,-⟩:=i.b0.c4;obtain⟨s0,s1,s2,s3,sf0,sf1,sf2,sf3,slt⟩:=i.b7.c4;obtain⟨hg1,hg2,-⟩:=i.hg;have j:=h.out.none_;have m:=y5 j;clear i b g j;clear m;cases mk with
 | false =>
  obtain⟨b,rfl⟩:=S.out rfl;have s:=y5 (show dvF ⟨E,f,0,W⟩ (a:Int)=⟨E,f,l2,U⟩ by unfold dvF;rw[if_pos rfl];exact b);clear b;go_wp2_with fail;clear C;go_loopw [7] (λi wr=>i=.int .i64 0/\wr=W1) (λ_ _=>0)
  case atStart=>exact⟨rfl,rfl⟩
  obtain⟨rfl,rfl⟩:=hrel;by_cases g:0<f.length
  all_goals
   first
    | have b:(0:Int)<(f.length:Int):=by omega
    | (have b:decide ((0:Int)<(f.length:Int))=false:=by rw[kqb];omega);(have hpn:decide (0<f.length)=false:=by rw[kqb];exact g);clear g
   go_wp2_with (first
    | ((with_reducible refine av 79 (.tmp 5) ?_);refine ldD h.out.b7 ?_)
    | ((with_reducible refine aj 79 (.tmp 4) _ ?_);refine stD h.out.b1 ?_;intro w9 r e))
   exact kqq (cV results234 _ r.out rfl rfl) rfl ⟨⟨_,rfl,by rw[s.out];exact (h.out.done e.out).1⟩,(h.out.done e.out).2⟩
 | true =>
  obtain⟨G,B,b⟩:=T.out rfl;have s:=y5 (show dvF ⟨E,f,lf,W⟩ (a:Int)=⟨E,flQ (a:Int) f,l2,U⟩ by unfold dvF;rw[if_neg b,G,B]);clear G B b;go_wp2_with fail;clear C;go_loopw [7] (λi wr=>∃(k:Nat) (R:List Dw),k<=f.length/\i=.int .i64 k/\Hid (R=flQ (a:Int) (f.take k)++f.drop k)/\R.length=f.length/\Hid (NdAt w W0.heap.size W0.heap.size w1.heap.size n f.length A c DA dc lf W A1 c1 E R (.slice N R.length V) l2 U wr)) (λi _=>f.length-(intOf i).toNat)
  case atStart=>exact⟨0,f,kqv _,rfl,y5 rfl,rfl,h⟩
  clear h;obtain⟨k,R,Z,rfl,t,m,h⟩:=hrel;have z:=y5 m;have hz:=h.out.be.size;obtain⟨v0,v1,v2,v3,-,-,-,-,hgw⟩:=h.out.b7.c4;by_cases j:k<f.length
  .obtain ⟨F,L,M,y4⟩:=P.out k j R t.out;have i:k<R.length:=by rw[y4];exact j
   obtain⟨g,c9,Y⟩:=fa h.out.oq (by omega);injection Y with G B e3;subst G;subst e3;have hki:(k:Int)<(R.length:Int):=(by omega);have hf2:=h.out.oq.frozenAt (k*3+2);obtain⟨b,o,X,hbb,I,J,K⟩:=RdQ.at_ (show RdQ wr wr.heap.size (some ⟨g,0,none⟩) R from Rd.of_own h.out.oq) i;injection X with X;injection X with h1 h2 h3;subst h1;subst h2;rw[kxg] at I J K;rw[kqg i,Option.some.injEq] at F;rw[F] at I J K;have H:=Q.out _ (kqp j);have u:=y5 (show R[k]? = some f[k] by rw[kqg i,F]);obtain⟨x,hx⟩:=xq (f[k]);rw[hx] at I J K H L M u;obtain⟨xa,xv,xf⟩:=x;dsimp only at I J K H;obtain⟨q,rfl⟩:=kqz (show 0<=xa by omega);have hk0:(0:Int)<=(k:Int):=(by omega);have hxn:q<2048:=(by omega);have D:((q:Int)/8==(a:Int)/8)=decide (q/8=a/8):=by rw[kzk,kqw,kqh];omega
   by_cases p:q/8=a/8
   .rw[decide_eq_true p] at D;obtain⟨HF,y⟩:=yq0 (h.out.fl (by omega) (k*3+2) (.bool true) (o2:=R.set k ⟨(q:Int),xv,true⟩) (by rw[kq5]) (by rw[eN Dw.cells 3 Dw.len R k 2 (by omega) ⟨(q:Int),xv,true⟩ (.bool true) (λy y=>by rw[u.out] at y;cases y;rfl)])) (show R.set k ⟨(q:Int),xv,true⟩=flQ (a:Int) (f.take (k+1))++f.drop (k+1) by rw[M];unfold flB;rw[if_pos (show (q:Int)/8=(a:Int)/8 by omega)]);clear p hx F L M y4 i H m B;go_wp2;go_roundw;exact⟨k+1,_,by omega,by go_num,y,by rw[kq5];exact z.out,by rw[kq5];exact HF⟩;simp[intOf];omega
   rw[decide_eq_false p] at D;have y:=y5 (L (by unfold flB;rw[if_neg (show ¬ (q:Int)/8=(a:Int)/8 by omega)])).symm;clear p hx F L M y4 i H m B;go_wp2;go_roundw;exact⟨k+1,R,by omega,by go_num,y,z.out,h⟩;simp[intOf];omega
  have b:k=f.length:=(by omega);have g:=y5 (show R=flQ (a:Int) f by rw[t.out,b,<-O.out]);have hend:decide ((k:Int)<(R.length:Int))=false:=(by rw[kqb];omega);have hendn:decide (k<R.length)=false:=(by rw[kqb];omega);clear j Z b m;go_wp2_with (first
   | ((with_reducible refine av 79 (.tmp 5) ?_);refine ldD h.out.b7 ?_)
   | ((with_reducible refine aj 79 (.tmp 4) _ ?_);refine stD h.out.b1 ?_;intro w9 r e))
  exact kqq (cV results234 _ r.out rfl rfl) rfl ⟨⟨_,rfl,by rw[s.out,<-g.out];exact (h.out.done e.out).1⟩,(h.out.done e.out).2⟩
theorem nY{H:Nat}{o:List Dw}{x:Dw}(h:w.ownsRow H 92 3 v (o.length+1) (o.flatMap Dw.cells++x.cells)):w.ownsRow H 92 3 v (o++[x]).length ((o++[x]).flatMap Dw.cells):=by rw[kqu,kzv,kzz,List.flatMap_nil,kzf];exact h
theorem pH{B:Nat}{p:Addr}(b:Below B w w1)(c:Below B w w2)(h:w1.cell? p=some v)(a:p.block<B):w2.cell? p=some v:=(c.cell a).trans ((b.cell a).symm.trans h)
theorem uu(v:Value)(d:Dv)(a x:Nat)(w:World)(h:gV w v d)(j:fg d=true)(i:d.dw.length<=100000)(ha:a<d.im.length):
 Calls prog 232 #[v,.int .i64 (a:Int),.int .u64 (x:Int)] w λe b=>jo w (dvS d (a:Int) x) e b:=by
 obtain⟨A,c,DA,dc,im,l,lf,dn,n,l2,b2,mk,W0,rfl,rfl,q,r,B,hn2,hn0,hm,b,y,t,z,m⟩:=t7 h j i;obtain⟨Kg,Kh,f,HQ,g,Kd,Kf,Kc⟩:=yq6 q r m y z (fc b) (λk p o (h:StK l (a:Int) x k p o) hk=>h.ways b hk) (λp o (h:StK l (a:Int) x l.length p o)=>h.done);obtain⟨i0,u,o,p,s⟩:=kzh pd;obtain⟨HI,H,I,J⟩:=yq2 u o p s;clear u o p s;unfold jo;clear q r B b y z m h j i;go_enter func232,ntmps232;go_wp2_with ((with_reducible refine av 79 (.tmp 3) ?_);refine ldD g.out ?_);clear t;refine f.out.mono ?_;rintro e u ⟨A1,c1,DA1,dc1,rfl,W1,Ki,b⟩;have U:=y5 b;obtain⟨r0,r1,r2,r3,-⟩:=b.b0.c4;obtain⟨s0,s1,s2,s3,sf0,sf1,sf2,sf3,slt⟩:=b.b7.c4;obtain⟨hg1,hg2,-⟩:=b.hg;have i:=U.out.none_;have Eq:=y5 i;clear b f g i;cases mk with
 | false =>
  obtain⟨b,rfl⟩:=Kg.out rfl;have G:=y5 (show dvS ⟨im,l,0,dn⟩ (a:Int) x=⟨im,l,l2,b2⟩ by unfold dvS;rw[if_pos rfl];exact b);clear b;go_wp2_with (first
   | ((with_reducible refine av 79 (.tmp 7) ?_);refine ldD U.out.b7 ?_)
   | ((with_reducible refine aj 79 (.tmp 6) _ ?_);refine stD U.out.b1 ?_;intro w9 z o))
  exact kqq (cV results232 _ z.out rfl rfl) rfl ⟨⟨_,rfl,by rw[G.out];exact (U.out.done o.out).1⟩,(U.out.done o.out).2⟩
 | true =>
  obtain⟨b,e,f⟩:=Kh.out rfl;have G:=y5 (show dvS ⟨im,l,lf,dn⟩ (a:Int) x=⟨im,stQ l (a:Int) x,l2,b2⟩ by unfold dvS;rw[if_neg f,b,e]);clear b e f U;go_wp2_with fail;clear Ki;go_loopw [10,9] (λi b wr=>∃(k:Nat) (Z:Bool) (j:List Dw) (t:Option Addr) (c4:Nat),k<=l.length/\i=.int .i64 k/\b=.bool Z/\Hid (StK l (a:Int) x k Z j)/\j.length<=2*k+1/\Hid (NdAt w W0.heap.size (u.heap.size+1) u.heap.size n l.length A c DA dc lf dn A1 c1 im j (.slice t j.length c4) l2 b2 wr)) (λi _ _=>l.length-(intOf i).toNat)
  case atStart=>exact⟨0,false,[],none,0,kqv _,rfl,rfl,StK.start _ _ _,kqv _,Eq⟩
  clear Eq;obtain⟨k,Z,j,t,c4,hk,rfl,rfl,HS,hol,e⟩:=hrel;obtain⟨E,rfl⟩:∃W,W=wr:=⟨_,rfl⟩;have hzw:=e.out.be.size;obtain⟨s0,s1,s2,s3,sf0,sf1,sf2,sf3,slt⟩:=e.out.b7.c4;obtain⟨r0,r1,r2,r3,-,-,-,-,rlt⟩:=e.out.b0.c4;have ha0:=(e.out.b7.alloc (.cells #[.int .i64 (a:Int),.int .u64 (x:Int),.bool false] 92)).c4.2.1;by_cases C:k<l.length
  .obtain ⟨b,Y,rfl,Q,p0,p1,p2⟩:=RdQ.at_ (HQ.out.below e.out.be) C;have hw:=Kf.out k Z j HS.out C;have f:=Kd.out _ (kqp C);obtain⟨y,g⟩:=xq (l[k]);rw[g] at p0 p1 p2 hw f;obtain⟨F,T,S⟩:=y;dsimp only at p0 p1 p2 hw f;have HP:=y5 (λW (V:Below w.heap.size w W)=>And.intro (pH e.out.be V p0 Q) (And.intro (pH e.out.be V p1 Q) (pH e.out.be V p2 Q)));have hki:(k:Int)<(l.length:Int):=(by omega);have hk0:(0:Int)<=(k:Int):=(by omega);clear g C f;rcases hw with⟨rfl,rfl,R⟩|hw
   .have HX:=y5 R;clear R;go_wp2_with (at_builtin;refine kq7 _ rfl _ _ 77 rfl (u.heap.size+1) 92 i0 _ 3 24 underlying77 HI.out H.out I.out J.out rfl (by decide) _ _ _ rfl (e.out.oq.alloc _) ⟨_,0,none⟩ 1 1 [.int .i64 (a:Int),.int .u64 (x:Int),.bool false] rfl rfl (bc _ _ _) (by simp[Value.oneCell']) (by unfold maxLen;omega) (by omega) (by rw[kqm];omega) ?_;intro v4 w4 f q _;obtain⟨-,D,-,g⟩:=(e.out.up ((kqe E.heap.size E).alloc (kqa _) (.cells #[.int .i64 (a:Int),.int .u64 (x:Int),.bool false] 92))).app (nY (x:=⟨(a:Int),x,false⟩) f) q;obtain⟨-,l1,-,-,-,L,-,-,M⟩:=D.c4;obtain⟨t,c4,rfl⟩:=aw f;have i:(j++[(⟨(a:Int),x,false⟩:Dw)]).length=j.length+1:=(by simp);obtain⟨E,m⟩:∃W,w4.setCell ⟨u.heap.size,1,none⟩ (.slice t (j.length+1) c4)=W:=⟨_,rfl⟩;rw[m] at g;obtain⟨j,p⟩:∃O,j++[⟨(a:Int),x,false⟩]=O:=⟨_,rfl⟩;rw[p] at i g HX;rw[<-i] at g m |-;have e:=y5 g;obtain⟨-,r1,-⟩:=e.out.b0.c4;obtain⟨m0,m1,m2⟩:=HP.out _ e.out.be;have Kb:j.length<=2*k+2:=(by omega);clear g f q D p i);go_roundw;exact⟨k+1,true,_,t,c4,by omega,by go_num,rfl,HX,by omega,e⟩;simp[intOf];omega
   rcases hw with⟨rfl,h1,R⟩|⟨rfl,h1,R⟩|⟨rfl,h1,R⟩
   all_goals
    have HX:=y5 R;have hne:(F != (a:Int))=true:=by rw[kqx];omega
    first
     | have r:decide ((a:Int)<=F)=false:=by rw[kqb];omega
     | have r:decide ((a:Int)<=F)=true:=by rw[kqh];omega
    clear R h1;go_wp2_with (at_builtin;refine kq7 _ rfl _ _ 77 rfl (u.heap.size+1) 92 i0 _ 3 24 underlying77 HI.out H.out I.out J.out rfl (by decide) _ _ _ rfl (e.out.oq.alloc _) ⟨_,0,none⟩ 1 1 [.int .i64 (a:Int),.int .u64 (x:Int),.bool false] rfl rfl (bc _ _ _) (by simp[Value.oneCell']) (by unfold maxLen;omega) (by omega) (by rw[kqm];omega) ?_;intro v4 w4 f q _;obtain⟨-,D,-,g⟩:=(e.out.up ((kqe E.heap.size E).alloc (kqa _) (.cells #[.int .i64 (a:Int),.int .u64 (x:Int),.bool false] 92))).app (nY (x:=⟨(a:Int),x,false⟩) f) q;obtain⟨-,l1,-,-,-,L,-,-,M⟩:=D.c4;obtain⟨t,c4,rfl⟩:=aw f;have i:(j++[(⟨(a:Int),x,false⟩:Dw)]).length=j.length+1:=(by simp);obtain⟨E,m⟩:∃W,w4.setCell ⟨u.heap.size,1,none⟩ (.slice t (j.length+1) c4)=W:=⟨_,rfl⟩;rw[m] at g;obtain⟨j,p⟩:∃O,j++[⟨(a:Int),x,false⟩]=O:=⟨_,rfl⟩;rw[p] at i g HX;rw[<-i] at g m |-;have e:=y5 g;obtain⟨-,r1,-⟩:=e.out.b0.c4;obtain⟨m0,m1,m2⟩:=HP.out _ e.out.be;have Kb:j.length<=2*k+2:=(by omega);clear g f q D p i);(try clear m);have P:=y5 (e.out.up (kqe _ _).drew);obtain⟨W,V⟩:=xq E.drew
    refine fN 10 (λX:World=>X.cell? ⟨u.heap.size,1,none⟩=some (.slice t j.length c4)/\X.cell? ⟨w.heap.size,1,none⟩=some (.slice (some ⟨b,Y,none⟩) l.length dc)/\X.cell? ⟨b,Y+k*3,none⟩=some (.int .i64 F)/\X.cell? ⟨b,Y+k*3+1,none⟩=some (.int .u64 (T:Int))/\X.cell? ⟨b,Y+k*3+2,none⟩=some (.bool S)) (by kernel_rfl) ⟨P.out.b7.c4.2.1,P.out.b0.c4.2.1,HP.out _ P.out.be⟩ (λB=>?_);rw[V] at P B |-;clear V;show wpL _ _ _ _ _ _ 11 _ _ _;refine wl 0 (.pointer (some ⟨u.heap.size,1,none⟩)) ?_;refine wl 1 (.slice t j.length c4) ?_;refine wl 2 (.pointer (some ⟨w.heap.size,1,none⟩)) ?_;refine wl 3 (.slice (some ⟨b,Y,none⟩) l.length dc) ?_;refine wl 4 (.int .i64 (k:Int)) ?_;refine wl 5 (.pointer (some ⟨b,Y+k*3,none⟩)) ?_;refine wl 6 (.agg #[.int .i64 F,.int .u64 (T:Int),.bool S]) ?_;have hzW:=P.out.be.size;have hgW:=P.out.b7.lt;refine wo 7 (λK N=>?_);go_simp;have ha:=(kqe W.heap.size W).alloc (kqa _) (.cells #[.int .i64 F,.int .u64 (T:Int),.bool S] 92);have X:=y5 (P.out.up ha);refine N _ _ (λ_=>⟨X.out.b7.c4.2.1,X.out.b0.c4.2.1,HP.out _ X.out.be⟩) ?_;clear N K ha;refine wo 8 (λK N=>?_)
    refine dD _ _ _ 77 (by rfl) (u.heap.size+1) 92 i0 _ 3 24 underlying77 HI.out H.out I.out J.out rfl (by decide) (.slice t j.length c4) j.length (j.flatMap Dw.cells) (by rfl) X.out.oq (W.alloc (.cells #[.int .i64 F,.int .u64 (T:Int),.bool S] 92)).heap.size (some ⟨W.heap.size,0,none⟩) 1 1 [.int .i64 F,.int .u64 (T:Int),.bool S] (by rfl) (by rfl) (Rd.of_own (a8 (n:=1) (sz:=3) W 92 #[.int .i64 F,.int .u64 (T:Int),.bool S] (kqa _) (by rfl) (by unfold maxLen;omega))) (by simp[Value.oneCell']) (by unfold maxLen;omega) (by omega) (by rw[kqm];omega) ?_;intro v5 w5 r Ka;obtain⟨n0,D,nb,g⟩:=X.out.app (nY (x:=⟨F,T,S⟩) r) Ka;obtain⟨-,l1,-,-,-,L,-,-,M⟩:=D.c4;obtain⟨A5,c5,rfl⟩:=aw r;have Ke:=y5 g;have s:=And.intro l1 (And.intro n0.c4.2.1 (HP.out _ nb));refine N _ _ (λ_=>s) ?_;clear N K r Ka n0 D nb g;refine wl 9 (.pointer (some ⟨u.heap.size,1,none⟩)) ?_;refine wo 10 (λK N=>?_);go_simp;refine N _ _ (λh=>absurd rfl h) ?_;clear N K l1 L M B s;(try dsimp only[Act.put,kqr,kqn,kql,kqd,kqk,kqj]);refine wz ?_;go_simp;go_wp2;go_roundw;exact⟨k+1,_,_,A5,c5,by omega,by go_num,rfl,HX,by rw[kqu,kj7];omega,by rw[kqu,kj7];exact Ke⟩;simp[intOf];omega
  obtain rfl:k=l.length:=(by omega);have b:=Kc.out Z j HS.out;have r:=y5 b;have hend:decide ((l.length:Int)<(l.length:Int))=false:=(by simp);have hol2:j.length<=200001:=(by omega);clear C hk b;cases Z with
  | true =>
   have b:=r.out;rw[if_pos rfl] at b;have h:=y5 b;clear b;go_wp2_with (first
    | ((with_reducible refine av 79 (.tmp 7) ?_);refine ldD e.out.b7 ?_)
    | ((with_reducible refine aj 79 (.tmp 6) _ ?_);refine stD e.out.b1 ?_;intro w9 z o))
   exact kqq (cV results232 _ z.out rfl rfl) rfl ⟨⟨_,rfl,by rw[G.out,<-h.out];exact (e.out.done o.out).1⟩,(e.out.done o.out).2⟩
  | false =>
   have b:=r.out;rw[if_neg (by decide)] at b;have h:=y5 b;clear b;go_wp2_with (first
    | (at_builtin;refine kq7 _ rfl _ _ 77 rfl (u.heap.size+1) 92 i0 _ 3 24 underlying77 HI.out H.out I.out J.out rfl (by decide) _ _ _ rfl (e.out.oq.alloc _) ⟨_,0,none⟩ 1 1 [.int .i64 (a:Int),.int .u64 (x:Int),.bool false] rfl rfl (bc _ _ _) (by simp[Value.oneCell']) (by unfold maxLen;omega) (by omega) (by rw[kqm];omega) ?_;intro v4 w4 f q _;obtain⟨-,D,-,g⟩:=(e.out.up ((kqe E.heap.size E).alloc (kqa _) (.cells #[.int .i64 (a:Int),.int .u64 (x:Int),.bool false] 92))).app (nY (x:=⟨(a:Int),x,false⟩) f) q;obtain⟨-,l1,-,-,-,L,-,-,M⟩:=D.c4;obtain⟨t,c4,rfl⟩:=aw f;have i:(j++[(⟨(a:Int),x,false⟩:Dw)]).length=j.length+1:=(by simp);obtain⟨E,m⟩:∃W,w4.setCell ⟨u.heap.size,1,none⟩ (.slice t (j.length+1) c4)=W:=⟨_,rfl⟩;rw[m] at g;obtain⟨j,p⟩:∃O,j++[⟨(a:Int),x,false⟩]=O:=⟨_,rfl⟩;rw[p] at i g h;rw[<-i] at g m |-;have e:=y5 g;clear g f q D p i)
    | ((with_reducible refine av 79 (.tmp 7) ?_);refine ldD e.out.b7 ?_)
    | ((with_reducible refine aj 79 (.tmp 6) _ ?_);refine stD e.out.b1 ?_;intro w9 z o))
   exact kqq (cV results232 _ z.out rfl rfl) rfl ⟨⟨_,rfl,by rw[G.out,<-h.out];exact (e.out.done o.out).1⟩,(e.out.done o.out).2⟩
theorem Fn{im:List Nat}{l:List Dw}{k:Nat}(b:k<l.length):(l[k].f=true->iU im ((l.take (k+1)).filter (·.f))=(iU im ((l.take k).filter (·.f))).set l[k].a.toNat l[k].v/\(l.take (k+1)).filter (λe=>!e.f)=(l.take k).filter λe=>!e.f)/\(l[k].f=false->iU im ((l.take (k+1)).filter (·.f))=iU im ((l.take k).filter (·.f))/\(l.take (k+1)).filter (λe=>!e.f)=((l.take k).filter λe=>!e.f)++[l[k]]):=by
 rw[kqi b,kxa,kxa];refine⟨λh=>⟨?_,?_⟩,λh=>⟨?_,?_⟩⟩
 .rw[kxf,if_pos h];unfold iU;rw[kva];rfl
 .rw[kxf,if_neg (by rw[h];decide)];simp
 .rw[kxf,if_neg (by rw[h];decide)];simp
 rw[kxf,if_pos (by rw[h];rfl)];rfl
theorem ua(v:Value)(d:Dv)(w:World)(h:gV w v d)(i:fg d=true)(g:d.dw.length<=100000):
 Calls prog 235 #[v] w λe a=>jo w (dvN d) e a:=by
 obtain⟨A,c,DA,O,z,j,lf,dn,n,l2,b2,mk,W0,rfl,rfl,o,p,D,hn2,Kk,hm,m,B,t,C,l⟩:=t7 h i g;obtain⟨Kd,Ke,a,HQ,b,Kc,Kb⟩:=yq5 o p l B C (fc m) (λk (hk:k<j.length)=>Fn (im:=z) hk);have Eq:Hid (fnI z j=iU z ((j.take j.length).filter (·.f))):=y5 (by rw[kzb];rfl);have Ka:Hid (fnQ j=(j.take j.length).filter λe=>!e.f):=y5 (by rw[kzb];rfl);obtain⟨i0,y,q,r,s⟩:=kzh pd;obtain⟨HI,Kf,Kg,Kh⟩:=yq2 y q r s;clear y q r s;unfold jo;clear o p D m B C l h i g;go_enter func235,ntmps235;go_wp2_with ((with_reducible refine av 79 (.tmp 1) ?_);refine ldD b.out ?_);clear t;refine a.out.mono ?_;rintro e E ⟨A1,c1,DA1,dc1,rfl,W1,Ki,g⟩;have G:=y5 g;obtain⟨r0,r1,r2,r3,-⟩:=g.b0.c4;obtain⟨s0,s1,s2,s3,sf0,sf1,sf2,sf3,slt⟩:=g.b7.c4;obtain⟨hg1,hg2,-⟩:=g.hg;have i:=G.out.none_;have R:=y5 i;clear g a b i;cases mk with
 | false =>
  obtain⟨a,rfl⟩:=Kd.out rfl;have I:=y5 (show dvN ⟨z,j,0,dn⟩=⟨z,j,l2,b2⟩ by unfold dvN;rw[if_pos rfl];exact a);clear a;go_wp2_with (first
   | ((with_reducible refine av 79 (.tmp 3) ?_);refine ldD G.out.b7 ?_)
   | ((with_reducible refine aj 79 (.tmp 2) _ ?_);refine stD G.out.b1 ?_;intro w9 F s))
  exact kqq (cV results235 _ F.out rfl rfl) rfl ⟨⟨_,rfl,by rw[I.out];exact (G.out.done s.out).1⟩,(G.out.done s.out).2⟩
 | true =>
  obtain⟨a,b,g⟩:=Ke.out rfl;have I:=y5 (show dvN ⟨z,j,lf,dn⟩=⟨fnI z j,fnQ j,l2,b2⟩ by unfold dvN;rw[if_neg g,a,b]);obtain⟨L,c9,Kj⟩:=fa G.out.oi Kk;injection Kj with e3 e4 e5;subst e3;subst e5;clear a b g G e4;go_wp2_with fail;clear Ki;go_loopw [5] (λi wr=>∃(k:Nat) (Y:List Nat) (o:List Dw) (N:Option Addr) (c4:Nat),k<=j.length/\i=.int .i64 k/\Hid (Y=iU z ((j.take k).filter (·.f)))/\Hid (o=(j.take k).filter λe=>!e.f)/\o.length<=k/\Hid (NdAt w W0.heap.size (E.heap.size+1) E.heap.size n j.length A c DA O lf dn (some ⟨L,0,none⟩) c1 Y o (.slice N o.length c4) l2 b2 wr)) (λi _=>j.length-(intOf i).toNat)
  case atStart=>exact⟨0,z,[],none,0,kqv _,rfl,y5 rfl,y5 rfl,kqv _,R⟩
  clear R;obtain⟨k,Y,o,N,c4,hk,rfl,HY,HO,hol,g⟩:=hrel;obtain⟨W4,rfl⟩:∃W,W=wr:=⟨_,rfl⟩;have hzw:=g.out.be.size;obtain⟨s0,s1,s2,s3,sf0,sf1,sf2,sf3,slt⟩:=g.out.b7.c4;obtain⟨r0,r1,r2,r3,-,-,-,-,rlt⟩:=g.out.b0.c4;by_cases r:k<j.length
  .obtain ⟨b,l,rfl,M,Z,p1,p2⟩:=RdQ.at_ (HQ.out.below g.out.be) r;obtain⟨p,q⟩:=Kb.out k r;have S:=Kc.out _ (kqp r);obtain⟨y,a⟩:=xq (j[k]);rw[a] at Z p1 p2 p q S;obtain⟨D,B,C⟩:=y;dsimp only at Z p1 p2 p q S;rw[<-HY.out,<-HO.out] at p q;have V:=y5 (λW (P:Below w.heap.size w W)=>And.intro (pH g.out.be P Z M) (And.intro (pH g.out.be P p1 M) (pH g.out.be P p2 M)));have hki:(k:Int)<(j.length:Int):=(by omega);have hk0:(0:Int)<=(k:Int):=(by omega);clear a r;cases C with
   | true =>
    obtain⟨a,rfl⟩:=kqz (show 0<=D by omega);have J:=y5 (p rfl);rw[kqf] at J;have T:(a:Int)<(n:Int):=S.2;have ha0:(0:Int)<=(a:Int):=(by omega);obtain⟨hgg,-⟩:=g.out.oi.lt L rfl;have hgl:=g.out.ni L rfl;obtain⟨u0,hu0⟩:∃u,W4.cell? ⟨L,a,none⟩=some u:=by have i:=g.out.oi.cellAt a (by omega);rw[kqg (by rw[g.out.oi.1];omega)] at i;exact⟨_,i⟩
    have hf0:=g.out.oi.frozenAt a;have m:=y5 ((g.out.up (kqe _ _).drew).img a B);clear p q S;go_wp2_with fail;refine fN 15 (λX:World=>X.cell? ⟨E.heap.size,0,none⟩=some (.slice (some ⟨L,0,none⟩) n c1)/\X.cell? ⟨w.heap.size,1,none⟩=some (.slice (some ⟨b,l,none⟩) j.length O)/\X.cell? ⟨b,l+k*3,none⟩=some (.int .i64 (a:Int))/\X.cell? ⟨b,l+k*3+1,none⟩=some (.int .u64 (B:Int))) (by kernel_rfl) ⟨s0,r1,Z,p1⟩ (λi=>?_);show wpL _ _ _ _ _ _ 16 _ _ _;refine wl 0 (.pointer (some ⟨E.heap.size,0,none⟩)) ?_;refine wl 1 (.slice (some ⟨L,0,none⟩) n c1) ?_;refine wl 2 (.pointer (some ⟨w.heap.size,1,none⟩)) ?_;refine wl 3 (.slice (some ⟨b,l,none⟩) j.length O) ?_;refine wl 4 (.int .i64 (k:Int)) ?_;refine wl 5 (.pointer (some ⟨b,l+k*3,none⟩)) ?_;refine wl 6 (.pointer (some ⟨b,l+k*3,none⟩)) ?_;refine wl 7 (.int .i64 (a:Int)) ?_;refine wl 8 (.pointer (some ⟨w.heap.size,1,none⟩)) ?_;refine wl 9 (.slice (some ⟨b,l,none⟩) j.length O) ?_;refine wl 10 (.int .i64 (k:Int)) ?_;refine wl 11 (.pointer (some ⟨b,l+k*3,none⟩)) ?_;refine wl 12 (.pointer (some ⟨b,l+k*3+1,none⟩)) ?_;refine wl 13 (.int .u64 (B:Int)) ?_;refine wl 14 (.pointer (some ⟨L,a,none⟩)) ?_;refine wo 15 (λK t=>?_);go_simp;refine t _ _ (λh=>absurd rfl h) ?_;clear t K i;(try dsimp only[Act.put,kqr,kqn,kql,kqd,kqk,kqj]);refine wz ?_;go_simp;go_wp2;go_roundw;exact⟨k+1,_,o,N,c4,by omega,by go_num,y5 J.out.1.symm,y5 J.out.2.symm,by omega,m⟩;simp[intOf];omega
   | false =>
    have J:=y5 (q rfl);clear p q S;go_wp2_with fail;obtain⟨C,a⟩:∃f:Bool,false=f:=⟨_,rfl⟩;rw[a] at V J;clear a;have H:=y5 (g.out.up (kqe _ _).drew);obtain⟨W,P⟩:=xq W4.drew;refine fN 10 (λX:World=>X.cell? ⟨E.heap.size,1,none⟩=some (.slice N o.length c4)/\X.cell? ⟨w.heap.size,1,none⟩=some (.slice (some ⟨b,l,none⟩) j.length O)/\X.cell? ⟨b,l+k*3,none⟩=some (.int .i64 D)/\X.cell? ⟨b,l+k*3+1,none⟩=some (.int .u64 (B:Int))/\X.cell? ⟨b,l+k*3+2,none⟩=some (.bool C)) (by kernel_rfl) ⟨H.out.b7.c4.2.1,H.out.b0.c4.2.1,V.out _ H.out.be⟩ (λi=>?_);rw[P] at H i |-;clear P;show wpL _ _ _ _ _ _ 11 _ _ _;refine wl 0 (.pointer (some ⟨E.heap.size,1,none⟩)) ?_;refine wl 1 (.slice N o.length c4) ?_;refine wl 2 (.pointer (some ⟨w.heap.size,1,none⟩)) ?_;refine wl 3 (.slice (some ⟨b,l,none⟩) j.length O) ?_;refine wl 4 (.int .i64 (k:Int)) ?_;refine wl 5 (.pointer (some ⟨b,l+k*3,none⟩)) ?_;refine wl 6 (.agg #[.int .i64 D,.int .u64 (B:Int),.bool C]) ?_;have hzW:=H.out.be.size;have hgW:=H.out.b7.lt;refine wo 7 (λK t=>?_);go_simp;have T:=(kqe W.heap.size W).alloc (kqa _) (.cells #[.int .i64 D,.int .u64 (B:Int),.bool C] 92);have Q:=y5 (H.out.up T);refine t _ _ (λ_=>⟨Q.out.b7.c4.2.1,Q.out.b0.c4.2.1,V.out _ Q.out.be⟩) ?_;clear t K T
    refine wo 8 (λK t=>?_);refine dD _ _ _ 77 (by rfl) (E.heap.size+1) 92 i0 _ 3 24 underlying77 HI.out Kf.out Kg.out Kh.out rfl (by decide) (.slice N o.length c4) o.length (o.flatMap Dw.cells) (by rfl) Q.out.oq (W.alloc (.cells #[.int .i64 D,.int .u64 (B:Int),.bool C] 92)).heap.size (some ⟨W.heap.size,0,none⟩) 1 1 [.int .i64 D,.int .u64 (B:Int),.bool C] (by rfl) (by rfl) (Rd.of_own (a8 (n:=1) (sz:=3) W 92 #[.int .i64 D,.int .u64 (B:Int),.bool C] (kqa _) (by rfl) (by unfold maxLen;omega))) (by simp[Value.oneCell']) (by unfold maxLen;omega) (by omega) (by rw[kqm];omega) ?_;intro v5 w5 a T;obtain⟨n0,n7,nb,U⟩:=Q.out.app (nY (x:=⟨D,B,C⟩) a) T;obtain⟨-,l1,-,-,-,lf1,-,-,llt⟩:=n7.c4;obtain⟨A5,c5,rfl⟩:=aw a;have X:=y5 U;have m:=And.intro l1 (And.intro n0.c4.2.1 (V.out _ nb));refine t _ _ (λ_=>m) ?_;clear t K a T n0 n7 nb U;refine wl 9 (.pointer (some ⟨E.heap.size,1,none⟩)) ?_;refine wo 10 (λK t=>?_);go_simp;refine t _ _ (λh=>absurd rfl h) ?_;clear t K l1 lf1 llt i m;(try dsimp only[Act.put,kqr,kqn,kql,kqd,kqk,kqj]);refine wz ?_;go_simp;go_wp2;go_roundw;exact⟨k+1,Y,o++[⟨D,B,C⟩],A5,c5,by omega,by go_num,y5 J.out.1.symm,y5 J.out.2.symm,by rw[kqu,kj7];omega,by rw[kqu,kj7];exact X⟩;simp[intOf];omega
  have a:k=j.length:=(by omega);obtain⟨h,b⟩:=yq0 (show Y=fnI z j by rw[HY.out,a,Eq.out]) (show o=fnQ j by rw[HO.out,a,Ka.out]);have hend:decide ((k:Int)<(j.length:Int))=false:=(by rw[kqb];omega);have hendn:decide (k<j.length)=false:=by rw[kqb];exact r
  clear r hk a;go_wp2_with (first
   | ((with_reducible refine av 79 (.tmp 3) ?_);refine ldD g.out.b7 ?_)
   | ((with_reducible refine aj 79 (.tmp 2) _ ?_);refine stD g.out.b1 ?_;intro w9 F s))
  exact kqq (cV results235 _ F.out rfl rfl) rfl ⟨⟨_,rfl,by rw[I.out,<-h.out,<-b.out];exact (g.out.done s.out).1⟩,(g.out.done s.out).2⟩
theorem oZ(v:Value)(d:Dv)(w:World)(h:gV w v d)(b:d.im.length<=9223372036854775807)(K:d.dw.length<=4611686018427387904):
 Calls prog 83 #[v] w λe a=>e=.returned (.int .i64 (dZ d))/\Below w.heap.size w a:=by
 obtain⟨A,c,E,J,rfl,k,l,i⟩:=h;obtain⟨C,j,f,q⟩:=d;dsimp only at k l i b K |-;obtain⟨n,g⟩:=xq C.length;rw[g] at b |-;have t:=y5 (λW=>fu A n c W b);have z:Hid (dZ ⟨C,j,f,q⟩=if tO n f q&&fP n j (-1) then 0 else 8):=y5 (by unfold dZ;rw[uM,g]);have a:tO n f q=(am (n:Int)&&(decide (-1<=f)&&(decide (f<=1000000)&&(!q||f==0)))):=rfl;obtain⟨M,r,S⟩:=yq1 (Bx.new w 79 #[.slice A n c,.slice E j.length J,.int .i64 f,.bool q]) ((kqe w.heap.size w).alloc (kqa _) (.cells #[.slice A n c,.slice E j.length J,.int .i64 f,.bool q] 79)) i;obtain⟨y,s⟩:=xq (w.alloc (.cells #[.slice A n c,.slice E j.length J,.int .i64 f,.bool q] 79));rw[s] at M r;obtain⟨V,W,q2,q3,-,-,-,-,O⟩:=M.out.c4;clear l i g b k;have U:am (n:Int)=false\/am (n:Int)=true/\(f < -1\/¬ f < -1/\(1000000<f\/¬ 1000000<f/\(q=true/\(f==0)=false/\(f != 0)=true\/q=false\/q=true/\f=0))):=by
  cases am (n:Int) with
  | false=>exact .inl rfl
  | true =>
   refine .inr ⟨rfl,?_⟩;by_cases i:f < -1
   .exact .inl i
   refine .inr ⟨i,?_⟩;by_cases k:1000000<f
   .exact .inl k
   refine .inr ⟨k,?_⟩;cases q with
   | false=>exact .inr (.inl rfl)
   | true =>
    by_cases g:f=0
    .exact .inr (.inr ⟨rfl,g⟩)
    exact .inl ⟨rfl,by rw[kqc];exact g,by rw[kqx];exact g⟩
 rcases U with b|⟨b,i|⟨i,k|⟨k,⟨rfl,g,h4⟩|u⟩⟩⟩
 .have m:Hid (dZ ⟨C,j,f,q⟩=8):=y5 (by rw[z.out,a,b];rfl);have l:=y5 (bQ b);clear b a;go_enter func83,ntmps83;go_wp2_with fail;refine (t.out y).mono ?_;rintro e G ⟨rfl,rfl⟩;rw[l.out];clear s;go_wp2;go_ret;exact⟨by rw[m.out];rfl,r.out⟩
 .have m:Hid (dZ ⟨C,j,f,q⟩=8):=y5 (by rw[z.out,a,decide_eq_false (show ¬ -1<=f by omega),kxh,kx6,kxh];rfl);have l:=y5 (aM b);clear b a;go_enter func83,ntmps83;go_wp2_with fail;refine (t.out y).mono ?_;rintro e G ⟨rfl,rfl⟩;rw[l.out];clear s;go_wp2;go_ret;exact⟨by rw[m.out];rfl,r.out⟩
 .have m:Hid (dZ ⟨C,j,f,q⟩=8):=y5 (by rw[z.out,a,decide_eq_false (show ¬ f<=1000000 by omega),kxh,kx6,kx6,kxh];rfl);have l:=y5 (aM b);clear b a;go_enter func83,ntmps83;go_wp2_with fail;refine (t.out y).mono ?_;rintro e G ⟨rfl,rfl⟩;rw[l.out];clear s;go_wp2;go_ret;exact⟨by rw[m.out];rfl,r.out⟩
 .have m:Hid (dZ ⟨C,j,f,true⟩=8):=y5 (by rw[z.out,a,g];simp);have l:=y5 (aM b);clear b a g;go_enter func83,ntmps83;go_wp2_with fail;refine (t.out y).mono ?_;rintro e G ⟨rfl,rfl⟩;rw[l.out];clear s;go_wp2;go_ret;exact⟨by rw[m.out];rfl,r.out⟩
 have L:tO n f q=true:=by rw[a,b,decide_eq_true (show -1<=f by omega),decide_eq_true (show f<=1000000 by omega)];rcases u with rfl|⟨rfl,rfl⟩<;>rfl
 rw[L,kzx] at z;obtain⟨l,H⟩:=yq0 (aM b) (S.out.below r.out);clear b a L;rcases u with rfl|⟨rfl,rfl⟩
 all_goals
  go_enter func83,ntmps83;go_wp2_with fail;refine (t.out y).mono ?_;rintro e G ⟨rfl,rfl⟩;rw[l.out];clear s;go_wp2_with fail;go_loopw [4,3] (λi a wr=>∃(k:Nat) (b:Int),k<=j.length/\i=.int .i64 k/\a=.int .i64 b/\Hid (fP n j (-1)=fP n (j.drop k) b)/\Below y.heap.size y wr) (λi _ _=>j.length-(intOf i).toNat)
  case atStart=>exact⟨0,-1,kqv _,rfl,rfl,y5 rfl,kqe _ _⟩
  obtain⟨k,b,T,rfl,rfl,F,B⟩:=hrel;have r0:=(B.cell (p:=⟨w.heap.size,0,none⟩) O).trans V;have r1:=(B.cell (p:=⟨w.heap.size,1,none⟩) O).trans W;by_cases i:k<j.length
  .obtain ⟨g,o,rfl,hgb,P,Q,R⟩:=RdQ.at_ (show RdQ wr w.heap.size E j from Rd.keep H.out λp L=>B.cell (by have:=r.out.size;omega)) i;have D:=y5 (rV (n:=n) (b:=b) i);obtain⟨x,I⟩:=xq (j[k]);rw[I] at P Q R D;obtain⟨a,xv,xf⟩:=x;dsimp only at P Q R D;have hki:(k:Int)<(j.length:Int):=(by omega);have hk0:(0:Int)<=(k:Int):=(by omega);have p:=y5 B;clear I B;by_cases N:a<=b
   .have m:Hid (fP n j (-1)=false):=y5 (by rw[F.out,D.out,decide_eq_false (by omega)];rfl);have I:decide (a<=b)=true:=decide_eq_true N;go_wp2_with fail;go_quiet (fail);go_wp2;go_ret;exact⟨by rw[z.out,m.out];rfl,r.out.trans ((cF p.out _).mono r.out.size)⟩
   have c3:decide (a<=b)=false:=decide_eq_false N;by_cases I:(n:Int)<=a
   .have m:Hid (fP n j (-1)=false):=y5 (by rw[F.out,D.out,decide_eq_false (show ¬ a<(n:Int) by omega)];simp);have c4:decide ((n:Int)<=a)=true:=decide_eq_true I;go_wp2_with fail;go_quiet (fail);go_wp2;go_ret;exact⟨by rw[z.out,m.out];rfl,r.out.trans ((cF p.out _).mono r.out.size)⟩
   have m:Hid (fP n j (-1)=fP n (j.drop (k+1)) a):=y5 (by rw[F.out,D.out,decide_eq_true (show b<a by omega),decide_eq_true (show a<(n:Int) by omega)];simp);have c4:decide ((n:Int)<=a)=false:=decide_eq_false I;go_wp2_with fail;go_quiet (fail);go_wp2;go_roundw;exact⟨k+1,a,by omega,by go_num,rfl,m,cF p.out _⟩;simp[intOf];omega
  have m:Hid (fP n j (-1)=true):=y5 (by rw[F.out,kk7 (by omega)];rfl);have hend:decide ((k:Int)<(j.length:Int))=false:=(by rw[kqb];omega);have hendn:decide (k<j.length)=false:=by rw[kqb];exact i
  clear i T;go_wp2;go_ret;exact⟨by rw[z.out,m.out];rfl,r.out.trans (B.mono r.out.size)⟩
theorem l5(v:Value)(d:Dv)(w:World)(h:gV w v d)(b:fg d=true):
 Calls prog 84 #[v] w λe a=>(∃g c,e=.returned (.slice (some ⟨g,0,none⟩) d.im.length c)/\a.ownsRow w.heap.size 53 1 (.slice (some ⟨g,0,none⟩) d.im.length c) d.im.length ((dvV d).flatMap ap))/\Below w.heap.size w a:=by
 obtain⟨A,c,F,q,rfl,E,z,G⟩:=h;obtain⟨j,f,y,t⟩:=d;have r:=(cq _).1 b;have H:=(ae _).1 r.1;have i:=r.2.2.2.2;dsimp only at H i E z G |-;obtain⟨n,D⟩:=xq j.length;obtain⟨HT,C⟩:=yq0 (λW (h:RdW W W.heap.size A j)=>se A j c n W D (by omega) h) (fc i);rw[D] at C |-;have O:=y5 (λk r=>rF (x:=j) (l:=f) (k:=k) r);have L:Hid (dvV ⟨j,f,y,t⟩=iU j (f.take f.length)):=y5 (by rw[kzb];rfl);have hn3:n<=2048:=(by omega);have Q:0<n:=(by omega);have hdl:f.length<=2048:=(jn b).1;obtain⟨HR,Z⟩:=yq0 G z;have o:=Bx.new w 79 #[.slice A n c,.slice F f.length q,.int .i64 y,.bool t];have a:=(kqe w.heap.size w).alloc (kqa _) (.cells #[.slice A n c,.slice F f.length q,.int .i64 y,.bool t] 79);obtain⟨m,h⟩:=xq (w.alloc (.cells #[.slice A n c,.slice F f.length q,.int .i64 y,.bool t] 79));rw[h] at o a;obtain⟨B,X0⟩:=yq0 a o;obtain⟨K,N,R,T,-,-,-,-,hg⟩:=o.c4;have s:w.heap.size<=m.heap.size:=(by omega);clear z G o a D H i r E b;go_enter func84,ntmps84;go_wp2_with fail;clear h;refine (HT.out m (Z.out.up B.out s)).mono ?_;rintro e w1 ⟨⟨A1,I,rfl,a⟩,b⟩;obtain⟨g,c9,P⟩:=fa a Q;injection P with e1 e2 e3;subst e1;subst e3;obtain⟨M,J,X1⟩:=yq1 a (B.out.trans (b.mono s)) (X0.out.up b hg);have hz1:=b.size;clear a b K N R T;go_wp2_with fail;go_loopw [4] (λi wr=>∃k:Nat,k<=f.length/\i=.int .i64 k/\Hid (wr.ownsRow m.heap.size 53 1 (.slice (some ⟨g,0,none⟩) n I) n ((iU j (f.take k)).flatMap ap))/\Hid (Bx wr w.heap.size 79 #[.slice A n c,.slice F f.length q,.int .i64 y,.bool t])/\Hid (Below w.heap.size w wr)) (λi _=>f.length-(intOf i).toNat)
 case atStart=>exact⟨0,kqv _,rfl,M,X1,J⟩
 obtain⟨k,r,rfl,i,U,G⟩:=hrel;have hz:=G.out.size;obtain⟨r0,r1,r2,r3,-⟩:=U.out.c4;by_cases h:k<f.length
 .obtain ⟨b,o,rfl,hbb,R,T,W⟩:=RdQ.at_ (HR.out.below G.out) h;obtain⟨D,H⟩:=yq0 (O.out k h) (C.out _ (kqp h));obtain⟨x,e⟩:=xq (f[k]);rw[e] at R T W D H;obtain⟨xa,z,xf⟩:=x;dsimp only at R T W D H;obtain⟨a,rfl⟩:=kqz (show 0<=xa by have:=H.out.1;omega);rw[kqf] at D;have ha:(a:Int)<(n:Int):=H.out.2;have ha0:(0:Int)<=(a:Int):=(by omega);have han:a<n:=(by omega);have hki:(k:Int)<(f.length:Int):=(by omega);have hk0:(0:Int)<=(k:Int):=(by omega);obtain⟨Y,c⟩:=xq (iU j (f.take k));rw[c] at i D;have hw1g:m.heap.size<=g:=gH i.out;have hgw:g<wr.heap.size:=(i.out.lt g rfl).2;obtain⟨u0,hu0⟩:∃u,wr.cell? ⟨g,a,none⟩=some u:=by have E:=i.out.cellAt a (by omega);have K:=i.out.1;rw[kqg (by rw[K];omega)] at E;exact⟨_,E⟩
  have hf0:=i.out.frozenAt a;clear e c;go_wp2_with fail;refine kz4 (S:=λX:World=>X.cell? ⟨w.heap.size,1,none⟩=some (.slice (some ⟨b,o,none⟩) f.length q)/\X.cell? ⟨b,o+k*3,none⟩=some (.int .i64 (a:Int))/\X.cell? ⟨b,o+k*3+1,none⟩=some (.int .u64 (z:Int))) (by kernel_rfl) ⟨r1,R,T⟩ (λc=>?_);show wpAnyH _ _ _ _ _ 15 _ _ _;refine tj 0 (.slice (some ⟨g,0,none⟩) n I) ?_;refine tj 1 (.pointer (some ⟨w.heap.size,1,none⟩)) ?_;refine tj 2 (.slice (some ⟨b,o,none⟩) f.length q) ?_;refine tj 3 (.int .i64 (k:Int)) ?_;refine tj 4 (.pointer (some ⟨b,o+k*3,none⟩)) ?_;refine tj 5 (.pointer (some ⟨b,o+k*3,none⟩)) ?_;refine tj 6 (.int .i64 (a:Int)) ?_;refine tj 7 (.pointer (some ⟨w.heap.size,1,none⟩)) ?_;refine tj 8 (.slice (some ⟨b,o,none⟩) f.length q) ?_;refine tj 9 (.int .i64 (k:Int)) ?_;refine tj 10 (.pointer (some ⟨b,o+k*3,none⟩)) ?_;refine tj 11 (.pointer (some ⟨b,o+k*3+1,none⟩)) ?_;refine tj 12 (.int .u64 (z:Int)) ?_;refine tj 13 (.pointer (some ⟨g,a,none⟩)) ?_
  dsimp only[Act.put,kqr,kqn,kql,kqd,kqk,kqj];refine kzr (rs:=[14]) (by kernel_rfl) (by simp) ?_;refine AllReadyH.cons rfl (λK V=>?_) AllReadyH.nil;go_simp;have e:=λ(X:World)=>(kqe g X).setCell (p:=⟨g,a,none⟩) (kqa _) (.int .u64 (z:Int));refine V.out _ _ ⟨((e _).cell (p:=⟨w.heap.size,1,none⟩) (by dsimp only;omega)).trans c.1,((e _).cell (p:=⟨b,o+k*3,none⟩) (by dsimp only;omega)).trans c.2.1,((e _).cell (p:=⟨b,o+k*3+1,none⟩) (by dsimp only;omega)).trans c.2.2⟩ (λN=>?_);clear e V K N c;refine kx0 (by kernel_rfl) ?_ _;go_simp;go_wp2;go_roundw
  case rel =>
   refine⟨k+1,by omega,by go_num,?_,y5 ((show Bx wr.drew _ _ _ from U.out).far (p:=⟨g,a,none⟩) (show w.heap.size≠g by omega) (.int .u64 (z:Int))),y5 (G.out.drew.setCell (p:=⟨g,a,none⟩) (by dsimp only;omega) (.int .u64 (z:Int)))⟩;rw[D.out,kU];exact y5 ((show (wr.drew).ownsRow _ _ _ _ _ _ from i.out).stored a (.int .u64 (z:Int))).1
  case measure=>simp[intOf];omega
 have a:k=f.length:=(by omega);have b:Hid (wr.ownsRow m.heap.size 53 1 (.slice (some ⟨g,0,none⟩) n I) n ((dvV ⟨j,f,y,t⟩).flatMap ap)):=y5 (by rw[L.out,<-a];exact i.out);have hend:decide ((k:Int)<(f.length:Int))=false:=(by rw[kqb];omega);have hendn:decide (k<f.length)=false:=by rw[kqb];exact h
 clear h r a;go_wp2;go_ret;exact⟨⟨g,I,rfl,ab b.out s⟩,G.out⟩
theorem sZ(v1 v2:Value)(d:Dv)(w:World)(h1:gV w v1 d)(g:gV w v2 d)(o:d.im.length<=1000000)(J:d.dw.length<=1000000):
 Calls prog 39 #[v1,v2] w λe a=>e=.returned (.bool true)/\Below w.heap.size w a:=by
 obtain⟨A,c,y,r,rfl,-,t,u⟩:=h1;obtain⟨B,v,z,b,rfl,-,i,k⟩:=g;obtain⟨j,a,l,f⟩:=d;dsimp only at t u i k o J |-;have H:=y5 (λW (h:RdW W W.heap.size A j) (g:RdW W W.heap.size B j)=>sH A B j j j.length j.length c v W.heap.size W rfl rfl o h g (kqa _));rw[show decide (j=j)=true by simp] at H;obtain⟨Z,HQ,F,G⟩:=yq2 t u i k;obtain⟨n,x⟩:=xq j.length;rw[x] at H o |-;have s:=(Bx.new w 79 #[.slice A n c,.slice y a.length r,.int .i64 l,.bool f]).alloc (.cells #[.slice B n v,.slice z a.length b,.int .i64 l,.bool f] 79);have q:=Bx.new (w.alloc (.cells #[.slice A n c,.slice y a.length r,.int .i64 l,.bool f] 79)) 79 #[.slice B n v,.slice z a.length b,.int .i64 l,.bool f];rw[kqm] at q;have g:=((kqe w.heap.size w).alloc (kqa _) (.cells #[.slice A n c,.slice y a.length r,.int .i64 l,.bool f] 79)).alloc (by simp) (.cells #[.slice B n v,.slice z a.length b,.int .i64 l,.bool f] 79);obtain⟨I,h⟩:=xq ((w.alloc (.cells #[.slice A n c,.slice y a.length r,.int .i64 l,.bool f] 79)).alloc (.cells #[.slice B n v,.slice z a.length b,.int .i64 l,.bool f] 79));rw[h] at s q g;obtain⟨Q,R,m⟩:=yq1 s q g;obtain⟨q0,q1,q2,q3,-⟩:=s.c4;obtain⟨r0,r1,r2,r3,-⟩:=q.c4;have p:=g.size;clear t u i k s q g x;have hdn:(f != f)=false:=by cases f<;>rfl
 go_enter func39,ntmps39;go_wp2_with fail;clear h;refine (H.out I (Z.out.up m.out p) (F.out.up m.out p)).mono ?_;rintro e W ⟨rfl,h⟩;have i:=Q.out.up h Q.out.lt;have k:=R.out.up h R.out.lt;obtain⟨T,U,g⟩:=yq1 i k (m.out.trans (h.mono p));obtain⟨q0,q1,q2,q3,-⟩:=i.c4;obtain⟨r0,r1,r2,r3,-⟩:=k.c4;clear i k h;go_wp2_with fail;go_loopw [5] (λi wr=>∃k:Nat,k<=a.length/\i=.int .i64 k/\Below W.heap.size W wr) (λi _=>a.length-(intOf i).toNat)
 case atStart=>exact⟨0,kqv _,rfl,kqe _ _⟩
 obtain⟨k,hk,rfl,s⟩:=hrel;obtain⟨-,t1,-⟩:=(T.out.up s T.out.lt).c4;obtain⟨-,u1,-⟩:=(U.out.up s U.out.lt).c4;by_cases e:k<a.length
 .have h:=g.out.trans (s.mono g.out.size);obtain⟨i,t,rfl,hb1,K,L,M⟩:=RdQ.at_ (HQ.out.below h) e;obtain⟨q,u,rfl,hb2,N,O,P⟩:=RdQ.at_ (G.out.below h) e;obtain⟨x,V⟩:=xq (a[k]);rw[V] at K L M N O P;obtain⟨C,E,D⟩:=x;dsimp only at K L M N O P;have hki:(k:Int)<(a.length:Int):=(by omega);have hk0:(0:Int)<=(k:Int):=(by omega);have Y:=y5 s;clear V s h;go_wp2_with fail;refine kz4 (S:=λX:World=>X.cell? ⟨w.heap.size,1,none⟩=some (.slice (some ⟨i,t,none⟩) a.length r)/\X.cell? ⟨w.heap.size+1,1,none⟩=some (.slice (some ⟨q,u,none⟩) a.length b)/\X.cell? ⟨i,t+k*3,none⟩=some (.int .i64 C)/\X.cell? ⟨i,t+k*3+1,none⟩=some (.int .u64 (E:Int))/\X.cell? ⟨i,t+k*3+2,none⟩=some (.bool D)/\X.cell? ⟨q,u+k*3,none⟩=some (.int .i64 C)/\X.cell? ⟨q,u+k*3+1,none⟩=some (.int .u64 (E:Int))/\X.cell? ⟨q,u+k*3+2,none⟩=some (.bool D)) (by kernel_rfl) ⟨t1,u1,K,L,M,N,O,P⟩ (λhHeld=>?_);show wpAnyH _ _ _ _ _ 11 _ _ _;refine tj 0 (.pointer (some ⟨w.heap.size,1,none⟩)) ?_;refine tj 1 (.slice (some ⟨i,t,none⟩) a.length r) ?_;refine tj 2 (.int .i64 (k:Int)) ?_;refine tj 3 (.pointer (some ⟨i,t+k*3,none⟩)) ?_;refine tj 4 (.agg #[.int .i64 C,.int .u64 (E:Int),.bool D]) ?_;refine tj 5 (.pointer (some ⟨w.heap.size+1,1,none⟩)) ?_;refine tj 6 (.slice (some ⟨q,u,none⟩) a.length b) ?_;refine tj 7 (.int .i64 (k:Int)) ?_;refine tj 8 (.pointer (some ⟨q,u+k*3,none⟩)) ?_;refine tj 9 (.agg #[.int .i64 C,.int .u64 (E:Int),.bool D]) ?_;refine tj 10 (.bool false) ?_;dsimp only[Act.put,kqr,kqn,kql,kqd,kqk,kqj];refine kx0 (by kernel_rfl) ?_ _;go_simp;go_wp2;go_roundw;exact⟨k+1,by omega,by go_num,Y.out.drew⟩;simp[intOf];omega
 have hend:decide ((k:Int)<(a.length:Int))=false:=(by rw[kqb];omega);have hendn:decide (k<a.length)=false:=by rw[kqb];exact e
 clear e hk;go_wp2;go_ret;exact⟨rfl,g.out.trans (s.mono g.out.size)⟩
end Go.Proofs.YtpcajamacpbjcaaGreat
