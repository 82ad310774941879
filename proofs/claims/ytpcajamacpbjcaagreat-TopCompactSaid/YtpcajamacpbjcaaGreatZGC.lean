/- Devices: what the program returns (a fence's words, one by one). -/
import Derived.Test.YtpcajamacpbjcaaGreatZGB
set_option maxHeartbeats 16000000
set_option maxRecDepth 100000
set_option linter.all false
namespace Go.Proofs.YtpcajamacpbjcaaGreat
open Lib (hid)
open Go.RowKit Go.Lib
variable {dn:Bool}{x:Dw}{lf:Int}{R l:List Dw}{I im:List Nat}{xs:List Value}{H c dc g gB hw j k m n:Nat}{DA:Option Addr}{r:Option Nat}{w w0 wr:World}
open Go.Proofs.Tryz
def sF (H hw gB g n c:Nat) (DA:Option Addr) (m dc:Nat) (lf:Int) (dn:Bool) (w0:World) (im:List Nat) (R:List Dw) (wr:World):Prop:=
 Bx wr gB 79 #[.slice (some ⟨g,0,none⟩) n c,.slice DA m dc,.int .i64 lf,.bool dn]/\wr.ownsRow H 53 1 (.slice (some ⟨g,0,none⟩) n c) n (im.flatMap ae)/\wr.ownsRow H 92 3 (.slice DA m dc) m (R.flatMap Dw.cells)/\Below hw w0 wr/\im.length=n
theorem sF.alloc(h:sF H hw gB g n c DA m dc lf dn w0 im R wr)(h0:hw<=w0.heap.size)(o:Obj):sF H hw gB g n c DA m dc lf dn w0 im R (wr.alloc o):=
 ⟨h.1.alloc o,h.2.1.alloc o,h.2.2.1.alloc o,h.2.2.2.1.alloc (kz7 h0 h.2.2.2.1.size) o,h.2.2.2.2⟩
theorem sF.put(h:sF H hw gB g n c DA m dc lf dn w0 im R wr)(hH:hw<=H)(hB:gB<H){a:Nat}(v:Nat):sF H hw gB g n c DA m dc lf dn w0 (im.set a v) R (wr.setCell ⟨g,a,none⟩ (.int .u64 (v:Int))):=by
 obtain⟨l,b,f,k,j⟩:=h;have hg:H<=g:=ft b;refine⟨l.far (p:=⟨g,a,none⟩) (show gB≠g by omega) _,?_,aw f (p:=⟨g,a,none⟩) (λe=>?_) _,k.setCell (p:=⟨g,a,none⟩) (by dsimp only;omega) _,by rw[kq3,j]⟩
 .have i:=eO ae 1 (λ_=>rfl) im a 0 (by omega) v (.int .u64 (v:Int)) (λy _=>rfl);rw[kxq,kxa] at i;rw[i];exact (b.stored a _).1
 rcases dg f b (by decide) with d|d
 .rw[d] at e;cases e
 exact d (by rw[e];rfl)
theorem uc{w':World}(h:w.grownBy w' r)(o:Obj):w.grownBy (w'.alloc o) r:=by refine⟨h.os,h.tape,h.output,by rw[kqm];have:=h.size;omega,λk b a=>?_⟩;rw[Below.heap_alloc w' o k (by have:=h.size;omega)];exact h.block k b a
theorem v9(H hw gB g n c:Nat)(DA:Option Addr)(m dc:Nat)(lf:Int)(dn:Bool)(w0:World)(im:List Nat)(R:List Dw)(a v:Nat)(f:Bool)(w:World)(hst:sF H hw gB g n c DA m dc lf dn w0 im R w)(h0:hw<=w0.heap.size)(hH:hw<=H)(hB:gB<H)(ha:a<n)(_hn:n<=2048):
 Calls prog 230 #[.agg #[.int .i64 (a:Int),.int .u64 (v:Int),.bool f],.pointer (some ⟨gB,0,none⟩)] w λe w'=>e=.returned (.bool f)/\sF H hw gB g n c DA m dc lf dn w0 (if f=true then im.set a v else im) R w'/\w.grownBy w' (some g):=by
 have k:=hid (hst.alloc h0 (.cells #[.int .i64 (a:Int),.int .u64 (v:Int),.bool f] 92));have o:=hid ((hst.put hH hB (a:=a) v).alloc h0 (.cells #[.int .i64 (a:Int),.int .u64 (v:Int),.bool f] 92));have l:=(hst.1.alloc (.cells #[.int .i64 (a:Int),.int .u64 (v:Int),.bool f] 92)).c4;obtain⟨s0,-,-,-,-,-,-,-,-⟩:=l;have d:=hst.2.1.alloc (.cells #[.int .i64 (a:Int),.int .u64 (v:Int),.bool f] 92);have j:=hst.2.2.2.2;have b:(im.flatMap ae).length=im.length:=ki im;have h:=d.cellAt a (by omega);rw[kql (by omega)] at h;obtain⟨y,i⟩:=xq ((im.flatMap ae)[a]'(by omega));rw[i] at h;have qf:=d.frozenAt a;have r:=hid (show w.grownBy (w.alloc (.cells #[.int .i64 (a:Int),.int .u64 (v:Int),.bool f] 92)) (some g) from ew ((kqk w.heap.size w).alloc (kqa _) _));have q:=hid (show w.grownBy ((w.setCell ⟨g,a,none⟩ (.int .u64 (v:Int))).alloc (.cells #[.int .i64 (a:Int),.int .u64 (v:Int),.bool f] 92)) (some g) from uc (eM (vs:=[.int .u64 (v:Int)]) (ew (kqk w.heap.size w))) _);have hai:(a:Int)<(n:Int):=by omega
 have ha0:(0:Int)<=(a:Int):=by omega
 have hgw:g<w.heap.size:=(hst.2.1.lt g rfl).2;obtain⟨-,-,r2,-,-,-,-⟩:=((Bx.new w 92 #[.int .i64 (a:Int),.int .u64 (v:Int),.bool f]).far (p:=⟨g,a,none⟩) (show w.heap.size≠g by omega) (.int .u64 (v:Int))).c3;clear hst d j b i;cases f
 .go_enter func230,ntmps230;go_wp2;go_ret;exact⟨rfl,k.out,r.out⟩
 go_enter func230,ntmps230;go_wp2;go_ret;exact⟨rfl,o.out,q.out⟩
open Go.RowKit
def NoF (l:List Dw) (k:Nat):Prop:=∀j (h:j<l.length),j<k->l[j].f=false
theorem NoF.succ(h:NoF l k)(hk:k<l.length)(h1:l[k].f=false):NoF l (k+1):=λj b hjk=>by
 rcases kq7 j k with a|a
 .exact h j b a
 .obtain rfl:j=k:=by omega
  exact h1
theorem og{a b c:World}(h:a.grownBy b r)(k:b.grownBy c r):a.grownBy c r:=
 ⟨k.os.trans h.os,k.tape.trans h.tape,k.output.trans h.output,kz7 h.size k.size,λi e d=>(k.block i (kjq e h.size) d).trans (h.block i e d)⟩
theorem Bc(H hw gB g n c:Nat)(DA:Option Addr)(dc:Nat)(lf:Int)(dn:Bool)(w0:World)(im:List Nat)(l:List Dw)(w:World)(hst:sF H hw gB g n c DA l.length dc lf dn w0 im l w)(h0:hw<=w0.heap.size)(hH:hw<=H)(hB:gB<H)(hn:n<=2048)(hm:l.length<=1000000)(hat:∀x∈l,0<=x.a/\x.a<(n:Int)):
 Calls prog 271 #[.slice DA l.length dc,.func (.func 230) #[] #[.pointer (some ⟨gB,0,none⟩)]] w λe w'=>((e=.returned (.int .i64 (-1))/\NoF l l.length/\sF H hw gB g n c DA l.length dc lf dn w0 im l w')\/∃(k:Nat) (x:Dw),l[k]? = some x/\e=.returned (.int .i64 (k:Int))/\NoF l k/\x.f=true/\sF H hw gB g n c DA l.length dc lf dn w0 (im.set x.a.toNat x.v) l w')/\w.grownBy w' (some g):=by
 have z:=hid hst;have B:=hid hat;have L:=hid (λa v f W O P=>v9 H hw gB g n c DA l.length dc lf dn w0 im l a v f W O h0 hH hB P hn);clear hst hat h0 hH;go_enter func271,ntmps271;go_wp2_with fail;go_loopw [8] (λi wr=>∃k:Nat,k<=l.length/\i=.int .i64 k/\Hid (NoF l k)/\Hid (sF H hw gB g n c DA l.length dc lf dn w0 im l wr)/\Hid (w.grownBy wr (some g))) (λi _=>l.length-(RowKit.intOf i).toNat)
 case atStart=>exact⟨0,kqz _,rfl,hid (λj _ h=>absurd h (by omega)),z,hid (ew (kqk _ _))⟩
 obtain⟨k,hk,rfl,o,A,G⟩:=hrel;by_cases d:k<l.length
 .obtain ⟨b,off,rfl,hbw,C,F,E⟩:=RdQ.at_ (show RdQ wr wr.heap.size DA l from Rd.of_own A.out.2.2.1) d;have u:=hid (λh=>o.out.succ d h);have I:=hid (kql d);obtain⟨x,D⟩:=xq (l[k]);have t:=B.out _ (kqn d);rw[D] at C F E u I t;obtain⟨xa,N,J⟩:=x;dsimp only at C F E t;obtain⟨m,rfl⟩:=kq1 t.1;have q:m<n:=by have:=t.2;omega
  have M:=hid (L.out m N J wr A.out q);have hlm:(k:Int)<(l.length:Int):=by omega
  have hk0:(0:Int)<=(k:Int):=by omega
  clear D t q;go_wp2_with fail;refine M.out.mono ?_;rintro e w2 ⟨rfl,p,r⟩;have y:=hid (og G.out r);have s:=hid p;clear p r;cases J
  .have K:=hid (u.out rfl);go_wp2;go_roundw
   case rel=>exact⟨k+1,by omega,by go_num,K,s,y⟩
   case measure=>simp[RowKit.intOf];omega
  go_wp2;go_ret;exact⟨.inr ⟨k,_,I.out,rfl,o.out,rfl,by simpa using s.out⟩,y.out⟩
 obtain rfl:k=l.length:=by omega
 go_wp2;go_ret;exact⟨.inl ⟨rfl,o.out,A.out⟩,G.out⟩
theorem C9(h:l[k]? = some x):l.take (k+1)=l.take k++[x]:=by rw[List.take_add_one,h];rfl
theorem qW(h:l[k]? = some x):fnQ (l.take (k+1))=fnQ (l.take k)++if x.f=true then [] else [x]:=by unfold fnQ;rw[C9 h,kjc];congr 1;cases a:x.f<;>simp[a]
theorem rG(h:l[k]? = some x):fnI im (l.take (k+1))=if x.f=true then (fnI im (l.take k)).set x.a.toNat x.v else fnI im (l.take k):=by
 unfold fnI kV;rw[C9 h,kjc];cases b:x.f
 .simp[b]
 simp[b]
theorem NoF.take(h:NoF l k):∀x∈l.take k,x.f=false:=λx b=>by obtain⟨j,a,rfl⟩:=kq0 b;rw[kq4] at a;rw[kkl];exact h j (by omega) (by omega)
theorem NoF.q(h:NoF l k):fnQ (l.take k)=l.take k:=by unfold fnQ;rw[kvo];intro x a;rw[h.take x a];rfl
theorem NoF.i(h:NoF l k):fnI im (l.take k)=im:=by
 have b:(l.take k).filter (λx=>x.f)=[]:=by rw[kkh];intro x a;rw[h.take x a];simp
 unfold fnI;rw[b];rfl
def FnD (im:List Nat) (l R:List Dw) (I:List Nat) (k j:Nat):Prop:=k<j/\j<=l.length/\R.length=l.length/\R.take k=fnQ (l.take j)/\R.drop j=l.drop j/\I=fnI im (l.take j)
theorem FnD.get(h:FnD im l R I k j):R[j]? = l[j]?:=by
 have a:(R.drop j)[0]? = R[j]?:=by simp
 have b:(l.drop j)[0]? = l[j]?:=by simp
 rw[h.2.2.2.2.1,b] at a;exact a.symm
theorem FnD.drop1(h:FnD im l R I k j):R.drop (j+1)=l.drop (j+1):=by have:=congrArg (List.drop 1) h.2.2.2.2.1;rwa [kxx,kxx] at this
theorem FnD.first(hx:l[k]? = some x)(h:NoF l k)(h1:x.f=true):FnD im l l (im.set x.a.toNat x.v) k (k+1):=by
 have hk:k<l.length:=(kza.1 hx).1;refine⟨by omega,by omega,rfl,?_,rfl,?_⟩
 .rw[qW hx,h.q,if_pos h1,kzt]
 rw[rG hx,h.i,if_pos h1]
theorem FnD.del(h:FnD im l R I k j)(hx:l[j]? = some x)(h1:x.f=true):FnD im l R (I.set x.a.toNat x.v) k (j+1):=by
 have hj:j<l.length:=(kza.1 hx).1;refine⟨by have:=h.1;omega,by omega,h.2.2.1,?_,h.drop1,?_⟩
 .rw[qW hx,if_pos h1,kzt];exact h.2.2.2.1
 rw[rG hx,if_pos h1,<-h.2.2.2.2.2]
theorem FnD.keep(h:FnD im l R I k j)(hx:l[j]? = some x)(h1:x.f=false):FnD im l (R.set k x) I (k+1) (j+1):=by
 have hj:j<l.length:=(kza.1 hx).1;have b:=h.drop1;obtain⟨g1,g2,c,d,g5,a⟩:=h;refine⟨by omega,by omega,by rw[kq3];exact c,?_,?_,?_⟩
 .rw[qW hx,if_neg (by rw[h1];simp),<-d,kqp (by rw[kq3];omega),List.getElem_set_self,kvp (kqa _)]
 .rw[kvq (by omega)];exact b
 rw[rG hx,if_neg (by rw[h1];simp)];exact a
theorem Ia{sz:Nat}{e:TypeId}(h:w.ownsRow H e sz (.slice (some ⟨g,0,none⟩) n c) n xs)(hk:k<=n):w.ownsRow H e sz (.slice (some ⟨g,0,none⟩) k c) k (xs.take (k*sz)):=by
 have a:k*sz<=n*sz:=kxy _ hk;refine⟨by rw[kq4,h.1,kxg a],?_⟩;rcases h.2 with⟨d,-⟩|⟨g',cap,b,d,j,i,h4,l,m,f⟩
 .cases d
 injection d with h8 h9 h10;subst h10;injection h8 with h8;injection h8 with h8;subst h8;exact .inr ⟨g,c,b,rfl,j,i,by omega,l,m,by rw[<-f,kkg,kxg a]⟩
theorem uk{vs:List Value}{o:Nat}(h:o+vs.length<=xs.length):(tQ xs o vs).take o=xs.take o:=by rw[mw _ _ _ h,kxn (by rw[kq4];omega),kkg,Nat.min_self]
theorem zeroDw(w:World):(zeroValue 92).run prog w=.ok (.agg #[.int .i64 0,.int .u64 0,.bool false]) w:=by kernel_rfl
theorem yX(H hw gB g n c:Nat)(DA:Option Addr)(dc:Nat)(lf:Int)(dn:Bool)(w0:World)(im:List Nat)(l:List Dw)(w:World)(d:sF H hw gB g n c DA l.length dc lf dn w0 im l w)(h0:hw<=w0.heap.size)(hH:hw<=H)(S:gB<H)(hn:n<=2048)(hm:l.length<=1000000)(hat:∀x∈l,0<=x.a/\x.a<(n:Int)):
 Calls prog 229 #[.slice DA l.length dc,.func (.func 230) #[] #[.pointer (some ⟨gB,0,none⟩)]] w λe w'=>(∃A' c',e=.returned (.slice A' (fnQ l).length c')/\w'.ownsRow H 92 3 (.slice A' (fnQ l).length c') (fnQ l).length ((fnQ l).flatMap Dw.cells))/\Bx w' gB 79 #[.slice (some ⟨g,0,none⟩) n c,.slice DA l.length dc,.int .i64 lf,.bool dn]/\w'.ownsRow H 53 1 (.slice (some ⟨g,0,none⟩) n c) n ((fnI im l).flatMap ae)/\Below hw w0 w':=by
 have Ll:=hid (Bc H hw gB g n c DA dc lf dn w0 im l w d h0 hH S hn hm hat);have HST:=hid d;have Lm:=hid hat;have HC:=hid (λJ R a v f W h1 h2=>v9 H hw gB g n c DA l.length dc lf dn w0 J R a v f W h1 h0 hH S h2 hn);have HH:=hid (And.intro h0 hH);clear d hat h0 hH;go_enter func229,ntmps229;go_wp2_with fail;refine Ll.out.mono ?_;rintro e w1 ⟨⟨rfl,u,o⟩|⟨k,x,C,rfl,u,T,o⟩,Z⟩
 .have t:=hid o;have HQ:=hid (show fnQ l=l by have:=u.q;rwa [kzf] at this);have HI:=hid (show fnI im l=im by have:=u.i (im:=im);rwa [kzf] at this);clear u o Z;go_wp2;go_ret;rw[HQ.out,HI.out];exact⟨⟨DA,dc,rfl,t.out.2.2.1⟩,t.out.1,t.out.2.1,t.out.2.2.2.1⟩
 have hk:k<l.length:=(kza.1 C).1;have HD:=hid (FnD.first (im:=im) C u T);obtain⟨p,cL,eL⟩:=gt o.2.2.1 (by omega);injection eL with e1 e2 e3;subst e1;subst e3;have Kz:=ft o.2.2.1;have F:p≠g:=λh=>by
  rcases dg o.2.2.1 o.2.1 (by decide) with h6|h6
  .cases h6
  exact h6 (by rw[h];rfl)
 have hneB:p≠gB:=by omega
 have t:=hid o;have hwk:IntKind.i64.wrap ((k:Int)+1)=(k:Int)+1:=kqt _ (by omega);have hkm:((k:Int) == -1)=false:=by rw[kqi];omega
 clear u T C o Z;go_wp2_with fail;go_loopw [5,6] (λiv jv wr=>∃(i j:Nat) (R:List Dw) (J:List Nat),iv=.int .i64 i/\jv=.int .i64 j/\Hid (FnD im l R J i j)/\Hid (sF H hw gB g n c (some ⟨p,0,none⟩) l.length dc lf dn w0 J R wr)) (λ_ jv _=>l.length-(RowKit.intOf jv).toNat)
 case atStart=>exact⟨k,k+1,l,_,rfl,by go_num,HD,t⟩
 obtain⟨i,j,R,J,rfl,rfl,K,D⟩:=hrel;have d:=K.out;have hRl:=d.2.2.1;have hij:=d.1;have hjl2:=d.2.1;by_cases hlt:j<l.length
 .have X:j<R.length:=by omega
  obtain⟨b,off,eA,hbw,q0,q1,q2⟩:=RdQ.at_ (show RdQ wr wr.heap.size _ R from Rd.of_own D.out.2.2.1) X;cases eA;simp only[kxd] at q0 q1 q2;have z:l[j]? = some R[j]:=by rw[<-d.get,kql X]
  obtain⟨x,C⟩:=xq (R[j]);rw[C] at q0 q1 q2 z;have ht:=Lm.out _ (List.mem_of_getElem? z);have HK:=hid (λh=>K.out.keep z h);have Eq:=hid (λh=>K.out.del z h);obtain⟨xa,s,xf⟩:=x;dsimp only at q0 q1 q2 ht Eq;obtain⟨m,rfl⟩:=kq1 ht.1;have Lf:m<n:=by have:=ht.2;omega
  have hlm:(j:Int)<(l.length:Int):=by omega
  have hj0:(0:Int)<=(j:Int):=by omega
  have Ld:(0:Int)<=(i:Int):=by omega
  have La:(i:Int)<(l.length:Int):=by omega
  have BN:=hid (Bx.new wr 92 #[.int .i64 (m:Int),.int .u64 (s:Int),.bool xf]);have SN:=hid (D.out.alloc HH.out.1 (.cells #[.int .i64 (m:Int),.int .u64 (s:Int),.bool xf] 92));have Lk:g<wr.heap.size:=(D.out.2.1.lt g rfl).2;clear C z ht d;go_upto_region 8 with (fail);obtain⟨wn,G⟩:∃wn,wr.alloc (.cells #[.int .i64 (m:Int),.int .u64 (s:Int),.bool xf] 92)=wn:=⟨_,rfl⟩;rw[G] at BN SN |-;have Ky:wn.heap.size=wr.heap.size+1:=by rw[<-G];simp
  obtain⟨bn,Le⟩:=xq wr.heap.size;rw[Le] at BN Ky Lk |-;clear G q0 q1 q2;have HQ:=hid (HC.out J R m s xf wn SN.out Lf);obtain⟨p0,p1,p2,-,-,-,hgn⟩:=BN.out.c3;go_wp2_with fail;refine HQ.out.mono ?_;rintro e A ⟨rfl,Lb,Y⟩;have U:=hid Lb;have bn2:Bx A bn _ _:=(Y.block bn (by omega) (by first|exact λe=>by injection e with e;omega|exact λe=>by injection e with e;omega)).trans BN.out;clear Lb Y p0 p1 p2;obtain⟨p0,p1,p2,-,-,-,hgn2⟩:=bn2.c3;cases xf
  .have HY:=hid (HK.out rfl);have r:sF H hw gB g n c (some ⟨p,0,none⟩) l.length dc lf dn w0 J R A:=U.out;have y:A.there p (i*3) (#[.int .i64 (m:Int),.int .u64 (s:Int),.bool false]:Array Value).size:=jU r.2.2.1 (i*3) 3 (by omega);have V:(prog.info? 92).map (·.size)=some (#[.int .i64 (m:Int),.int .u64 (s:Int),.bool false]:Array Value).size:=by kernel_rfl
   have Kw:(#[.int .i64 (m:Int),.int .u64 (s:Int),.bool false]:Array Value).all (·.oneCell')=true:=by simp[Value.oneCell']
   have C:=dE (Dw.cells ⟨(m:Int),s,false⟩) (i*3) A _ r.2.2.1;rw[Cp R i _ (by omega)] at C;have E:iE A (A.setCells p (i*3) (Dw.cells ⟨(m:Int),s,false⟩)) p:=⟨cY _ _ _,λg' I=>dN I _ _ _,λB S=>bh S _ (kqk _ _)⟩;have YS:Hid (sF H hw gB g n c (some ⟨p,0,none⟩) l.length dc lf dn w0 J (R.set i ⟨(m:Int),s,false⟩) (A.setCells p (i*3) (Dw.cells ⟨(m:Int),s,false⟩))):=hid ⟨E.bx r.1 (by omega),aN r.2.1 E.grown (.inr (λe=>F (by injection e with e;exact e.symm))),C,E.below r.2.2.2.1 (kz7 HH.out.2 Kz),r.2.2.2.2⟩;obtain⟨cs,O⟩:∃cs:Array Value,#[.int .i64 (m:Int),.int .u64 (s:Int),.bool false]=cs:=⟨_,rfl⟩;obtain⟨w3,N⟩:∃w3,A.setCells p (i*3) (Dw.cells ⟨(m:Int),s,false⟩)=w3:=⟨_,rfl⟩;have Lj:A.setCells p (i*3) cs.toList=w3:=by rw[<-O];exact N
   rw[N] at YS;rw[O] at y V Kw;clear N E C r;go_wp2_with (refine kju rfl _ _ _ rfl p (i*3) cs (by rfl) (by rw[<-O];rfl) y V Kw ?_;rw[Lj]);go_roundw
   case rel=>exact⟨i+1,j+1,R.set i ⟨(m:Int),s,false⟩,J,by go_num,by go_num,HY,YS⟩
   case measure=>simp[RowKit.intOf];omega
  have HY:=hid (Eq.out rfl);have Lh:Hid (sF H hw gB g n c (some ⟨p,0,none⟩) l.length dc lf dn w0 (J.set (Int.toNat (m:Int)) s) R A):=hid (by rw[kqj];exact U.out);go_wp2;go_roundw
  case rel=>exact⟨i,j+1,R,_,rfl,by go_num,HY,Lh⟩
  case measure=>simp[RowKit.intOf];omega
 have Lc:j=l.length:=by omega
 have hicl0:l.length<=dc:=cK D.out.2.2.1;have hicl:(i:Int)<=(dc:Int):=by omega
 have hill:(i:Int)<=(l.length:Int):=by omega
 have Ld:(0:Int)<=(i:Int):=by omega
 have hne:i≠dc:=by omega
 have hnec:¬ ((i:Int)=(dc:Int)):=by omega
 have Lg:=hid (show fnQ l=R.take i by rw[d.2.2.2.1,Lc,kzf]);have Li:=hid (show fnI im l=J by rw[d.2.2.2.2.2,Lc,kzf]);have Kx:=D.out.2.2.1.1;obtain⟨L,hL⟩:=xq ((Builtin.zeroCells (Value.cells (.agg #[.int .i64 0,.int .u64 0,.bool false])) (l.length-i)).toList);have M:L.length=(l.length-i)*3:=by rw[<-hL,lB];rfl
 have y:=jU D.out.2.2.1 (i*3) L.length (by rw[M];omega);have hcl:=kA (P:=prog) wr 77 92 0 _ underlying77 zeroDw L p (i*3) (l.length-i) (dc-i) hL (by omega)
  (λv hv=>by
   rw[<-hL] at hv;have:=lu hv (by decide);simp[Value.cells] at this;rcases this with rfl|rfl|rfl<;>rfl)
  (λq Q=>(y q Q).1) (λq Q=>(y q Q).2)
 have E:iE wr (wr.setCells p (i*3) L) p:=⟨cY _ _ _,λg' I=>dN I _ _ _,λB S=>bh S _ (kqk _ _)⟩;have Y0:=hid (E.bx D.out.1 (show gB≠p by omega));have YO:=hid (aN D.out.2.1 E.grown (.inr (λe=>F (by injection e with e;exact e.symm))));have YB:=hid (E.below D.out.2.2.2.1 (kz7 HH.out.2 Kz));have Q:=Ia (dE L (i*3) wr _ D.out.2.2.1) (k:=i) (by omega);rw[uk (by rw[Kx,M];omega),<-iV Dw.cells 3 Dw.len] at Q;have YQ:=hid Q;have La:(R.take i).length=i:=by rw[kq4];omega
 clear hL M y d E Q Kx;go_wp2;go_ret;rw[Lg.out,Li.out,La];exact⟨⟨_,_,rfl,YQ.out⟩,Y0.out,YO.out,YB.out⟩
theorem BK(A DA:Option Addr)(im:List Nat)(dw:List Dw)(lf:Int)(dn:Bool)(n c m dc:Nat)(w:World)(hn:im.length=n)(hm:dw.length=m)(hok:ff ⟨im,dw,lf,dn⟩=true)(hm2:m<=1000000)(hi:RdW w w.heap.size A im)(hr:RdQ w w.heap.size DA dw):
 Calls prog 183 #[.agg #[.slice A n c,.slice DA m dc,.int .i64 lf,.bool dn]] w λe w'=>(∃u,e=.returned (.tuple #[u,.int .i64 0])/\lX w' w.heap.size (dvN ⟨im,dw,lf,dn⟩) u)/\Below w.heap.size w w':=by
 have Z:=(bP _).1 hok;have hs:=(ab _).1 Z.1;dsimp only at hs;have Eq : -1<=lf/\lf<=1000000:=⟨Z.2.1,Z.2.2.1⟩;have J:=Z.2.2.2.2;dsimp only at J;have O:=hid (gw J);rw[hn] at O;have Kw:=hid (λW (h:RdQ W W.heap.size DA dw)=>lj A DA im dw lf dn n c m dc W hn hm (by omega) (by omega) h);rw[show fC ⟨im,dw,lf,dn⟩=0 by unfold fC;rw[if_pos hok]] at Kw;have k:=hid (λW (h:RdW W W.heap.size A im) (h2:RdQ W W.heap.size DA dw)=>oM A DA im dw lf dn n c m dc W hn hm (by omega) (by omega) (by omega) Eq h h2);unfold lX at k;rw[(p9 _).1,(p9 _).2] at k;dsimp only at k;rw[hn,hm] at k;have HR:=hid hi;have HQ:=hid hr;obtain⟨W0,Lk,y,x1,U,Lc⟩:=nU w A DA lf dn n c m dc;have X0:=hid y;have X1:=hid x1;have X:=hid U;have o:=hid hn;have I:=hid hm;obtain⟨q0,q1,q2,q3,-,-,-,-,hg⟩:=y.c4;have R:w.heap.size<=W0.heap.size:=by omega
 have Le:w.heap.size+1<W0.heap.size:=by omega
 have Lb:w.heap.size+1≠w.heap.size:=by omega
 have Ld:n<=2048:=by omega
 have Lf:0<n:=by omega
 clear hi hr y x1 U Lc hn hm Z hs J hok;go_enter func183,ntmps183;go_wp2_with fail;clear Lk;refine (Kw.out W0 (HQ.out.up X.out R)).mono ?_;rintro e Q ⟨rfl,q⟩;have y:=X0.out.up q hg;have b:=hid (X.out.trans (q.mono R));have hz1:=q.size;obtain⟨p0,p1,p2,p3,-,-,-,-,f⟩:=y.c4;have Y0:=hid y;have Y1:=hid (X1.out.up q Le);have d:w.heap.size+1<Q.heap.size:=by omega
 clear y q q0 q1 q2 q3;go_wp2_with fail;refine (k.out Q (HR.out.up b.out b.out.size) (HQ.out.up b.out b.out.size)).mono ?_;rintro e w2 ⟨⟨_,rfl,A1,M,F,H,rfl,N,La,Ky⟩,j⟩;have C:=hid La;have L:=hid Ky;have Z0:=hid (Y0.out.up j f);have Z1:=hid (Y1.out.up j d);have K:=hid (b.out.trans (j.mono b.out.size));have Lh:=j.size;clear j La Ky p0 p1 p2 p3;by_cases l:lf=0
 .subst l;have HV:Hid (dvN ⟨im,dw,0,dn⟩=⟨im,dw,0,true⟩):=hid (by unfold dvN dvD;rw[if_pos rfl]);rw[qx rfl,show decide ((0:Int)≠0)=false from rfl];unfold dvD;dsimp only;go_wp2_with (first
   | ((with_reducible refine ar 79 (.tmp 1) _ ?_);refine stD Z0.out ?_;intro w3 z a)
   | ((with_reducible refine aQ 79 (.tmp 1) ?_);refine ldD z.out ?_)
   | ((with_reducible refine ar 79 (.tmp 2) _ ?_);refine stD (a.out.bx Z1.out Lb) ?_;intro w9 G i))
  refine kqq (v:=.tuple #[.agg #[.slice A1 n M,.slice F m H,.int .i64 0,.bool true],.int .i64 0]) (bi results183 _ G.out rfl rfl rfl) rfl ⟨⟨_,rfl,by
   rw[HV.out];exact⟨A1,M,F,H,by rw[o.out,I.out],by rw[o.out];exact N,by rw[o.out];exact am (aq (aq C.out a.out f) i.out d) b.out.size,by rw[I.out];exact am (aq (aq L.out a.out f) i.out d) b.out.size⟩⟩,i.out.below (a.out.below K.out (kqa _)) (by omega)⟩
 have ed:decide (lf≠0)=true:=by rw[kqo];exact l
 have HV:Hid (dvN ⟨im,dw,lf,dn⟩=⟨fnI im dw,fnQ dw,dec lf,dn⟩):=hid (by unfold dvN;rw[if_neg l]);have Kz:dvB ⟨im,dw,lf,dn⟩=⟨im,dw,dec lf,dn⟩:=by unfold dvB;rw[if_neg l]
 rw[ed,Kz];dsimp only;obtain⟨l2,Kx⟩:=xq (dec lf);rw[Kx] at HV |-;subst I;clear Kx Kz ed l Eq;go_wp2_with (first
  | (((with_reducible refine ar 79 (.tmp 1) _ ?_);refine stD Z0.out ?_;intro w3 z a);obtain⟨s0,s1,s2,s3,Y,sf1,V,P,slt⟩:=z.out.c4)
  | ((with_reducible refine aQ 79 (.tmp 1) ?_);refine ldD z.out ?_))
 have hw3:w.heap.size<w3.heap.size:=z.out.lt;have S:Q.heap.size<=w3.heap.size:=by have:=a.out.1;omega
 have U1:=hid (a.out.bx Z1.out Lb);have T:=hid (aq C.out a.out f);have Ll:=hid (aq L.out a.out f);have Lj:=hid (a.out.below K.out (kqa _));obtain⟨g,c9,Lg⟩:=gt T.out Lf;injection Lg with e1 e2 e3;subst e1;subst e3;have Li:(fnI im dw).length=n:=by unfold fnI;rw[nr,o.out]
 clear C L K Z0 Z1 a Lh s0 s1 s2 s3 Y sf1 V P slt;refine (yX Q.heap.size Q.heap.size w.heap.size g n M F H l2 dn w3 im dw w3 ⟨z.out,T.out,Ll.out,kqk _ _,o.out⟩ S (kqa _) f Ld hm2 (λx hx=>by have:=O.out x hx;omega)).mono ?_;rintro e w4 ⟨⟨t,s,rfl,D⟩,B,r,E⟩;have y1:=U1.out.up E d;have yb:=Lj.out.trans (E.mono b.out.size);have Y0:=hid (show Bx (w4.setCell ⟨w.heap.size,1,none⟩ (.slice t (fnQ dw).length s)) w.heap.size 79 #[.slice (some ⟨g,0,none⟩) n M,.slice t (fnQ dw).length s,.int .i64 l2,.bool dn] from B.set_ 1 _);have Y1:=hid (y1.far (p:=⟨w.heap.size,1,none⟩) (show w.heap.size+1≠w.heap.size by omega) (.slice t (fnQ dw).length s));have YO:=hid (aw r (p:=⟨w.heap.size,1,none⟩) (bQ r f).symm (.slice t (fnQ dw).length s));have YQ:=hid (aw D (p:=⟨w.heap.size,1,none⟩) (bQ D f).symm (.slice t (fnQ dw).length s));have YB:=hid (yb.setCell (p:=⟨w.heap.size,1,none⟩) (kqa _) (.slice t (fnQ dw).length s));obtain⟨s0,s1,s2,s3,Y,sf1,V,P,slt⟩:=B.c4;clear B r D E y1 yb z;go_wp2_with (first
  | ((with_reducible refine aQ 79 (.tmp 1) ?_);refine ldD Y0.out ?_)
  | ((with_reducible refine ar 79 (.tmp 2) _ ?_);refine stD Y1.out ?_;intro w9 G i))
 refine kqq (v:=.tuple #[.agg #[.slice (some ⟨g,0,none⟩) n M,.slice t (fnQ dw).length s,.int .i64 l2,.bool dn],.int .i64 0]) (bi results183 _ G.out rfl rfl rfl) rfl ⟨⟨_,rfl,by
  rw[HV.out];unfold lX;dsimp only;rw[Li];exact⟨some ⟨g,0,none⟩,M,t,s,rfl,N,am (aq YO.out i.out d) b.out.size,am (aq YQ.out i.out d) b.out.size⟩⟩,i.out.below YB.out (by omega)⟩
theorem qG(w:World)(H:Nat)(e:TypeId)(sz:Nat):w.ownsRow H e sz (.slice none 0 0) 0 []:=⟨by simp,.inl ⟨rfl,rfl⟩⟩
theorem I9(A:Option Addr)(im:List Nat)(n c:Nat)(w:World)(hn:im.length=n)(hs:ak (n:Int)=true)(hr:RdW w w.heap.size A im):
 Calls prog 42 #[.slice A n c] w λe w'=>(∃u,e=.returned (.tuple #[u,.int .i64 0])/\lX w' w.heap.size ⟨im,[],-1,false⟩ u)/\Below w.heap.size w w':=by
 have C:=(ab _).1 hs;have l:=hid (λW=>aB A n c W (by omega));rw[aV hs] at l;have d:=hid (λW (h:RdW W W.heap.size A im)=>mC A im c n W.heap.size W hn (by omega) (by omega) h (kqa _));unfold CM at d;rw[hn] at d;have D:=hid hr;have q:=hid hn;have x:=hid (Bx.new w 79 #[.slice none 0 0,.slice none 0 0,.int .i64 0,.bool false]);have b:=hid ((kqk w.heap.size w).alloc (kqa _) (.cells #[.slice none 0 0,.slice none 0 0,.int .i64 0,.bool false] 79));have o:(w.alloc (.cells #[.slice none 0 0,.slice none 0 0,.int .i64 0,.bool false] 79)).heap.size=w.heap.size+1:=kqm _ _;obtain⟨j,k⟩:=xq (w.alloc (.cells #[.slice none 0 0,.slice none 0 0,.int .i64 0,.bool false] 79));rw[k] at x b o;have i:w.heap.size<j.heap.size:=by omega
 clear hr hn hs C;go_enter func42,ntmps42;go_wp2_with fail;refine (l.out j).mono ?_;rintro e z ⟨rfl,rfl⟩;clear k;go_wp2_with fail;refine (d.out j (D.out.up b.out b.out.size)).mono ?_;rintro e z ⟨y,r,rfl,a,f⟩;have s:=hid a;have B:=hid (x.out.up f i);have p:=hid (b.out.trans (f.mono b.out.size));have m:n<=r:=cK a;clear a f;go_wp2_with (first
  | ((with_reducible refine ar 79 (.tmp 2) _ ?_);refine stD B.out ?_;intro w9 t g))
 refine kqq (v:=.tuple #[.agg #[.slice (some ⟨y,0,none⟩) n r,.slice none 0 0,.int .i64 (-1),.bool false],.int .i64 0]) (bi results42 _ t.out rfl rfl rfl) rfl ⟨⟨_,rfl,by
  unfold lX;dsimp only;rw[q.out];exact⟨some ⟨y,0,none⟩,r,none,0,rfl,m,am (aq s.out g.out i) b.out.size,qG _ _ _ _⟩⟩,g.out.below p.out (kqa _)⟩
end Go.Proofs.YtpcajamacpbjcaaGreat
