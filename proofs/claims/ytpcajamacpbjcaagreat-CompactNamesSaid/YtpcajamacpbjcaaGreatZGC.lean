/- Devices: what the program returns (a fence's words, one by one). -/
import Derived.Test.YtpcajamacpbjcaaGreatZGB
set_option maxHeartbeats 16000000
set_option maxRecDepth 100000
set_option linter.all false
namespace Go.Proofs.YtpcajamacpbjcaaGreat
open Lib (hid)
open Go.RowKit Go.Lib
variable {dn:Bool}{x:Dw}{lf:Int}{R l:List Dw}{I im:List Nat}{xs:List Value}{H c dc g gB hw j k m n:Nat}{DA:Option Addr}{r:Option Nat}{w w0 wr:World}
open Go.Proofs.Tryz
def qK (H hw gB g n c:Nat) (DA:Option Addr) (m dc:Nat) (lf:Int) (dn:Bool) (w0:World) (im:List Nat) (R:List Dw) (wr:World):Prop:=
 Bx wr gB 79 #[.slice (some ⟨g,0,none⟩) n c,.slice DA m dc,.int .i64 lf,.bool dn]/\wr.ownsRow H 53 1 (.slice (some ⟨g,0,none⟩) n c) n (im.flatMap aa)/\wr.ownsRow H 92 3 (.slice DA m dc) m (R.flatMap Dw.cells)/\Below hw w0 wr/\im.length=n
theorem qK.alloc(h:qK H hw gB g n c DA m dc lf dn w0 im R wr)(h0:hw<=w0.heap.size)(o:Obj):qK H hw gB g n c DA m dc lf dn w0 im R (wr.alloc o):=
 ⟨h.1.alloc o,h.2.1.alloc o,h.2.2.1.alloc o,h.2.2.2.1.alloc (kz1 h0 h.2.2.2.1.size) o,h.2.2.2.2⟩
theorem qK.put(h:qK H hw gB g n c DA m dc lf dn w0 im R wr)(hH:hw<=H)(hB:gB<H){a:Nat}(v:Nat):qK H hw gB g n c DA m dc lf dn w0 (im.set a v) R (wr.setCell ⟨g,a,none⟩ (.int .u64 (v:Int))):=by
 obtain⟨j,b,f,l,k⟩:=h;have hg:H<=g:=fR b;refine⟨j.far (p:=⟨g,a,none⟩) (show gB≠g by omega) _,?_,au f (p:=⟨g,a,none⟩) (λe=>?_) _,l.setCell (p:=⟨g,a,none⟩) (by dsimp only;omega) _,by rw[kq4,k]⟩
 .have i:=eF aa 1 (λ_=>rfl) im a 0 (by omega) v (.int .u64 (v:Int)) (λy _=>rfl);rw[kxh,kz8] at i;rw[i];exact (b.stored a _).1
 rcases fD f b (by decide) with d|d
 .rw[d] at e;cases e
 exact d (by rw[e];rfl)
theorem sB{w':World}(h:w.grownBy w' r)(o:Obj):w.grownBy (w'.alloc o) r:=by refine⟨h.os,h.tape,h.output,by rw[kqm];have:=h.size;omega,λk b a=>?_⟩;rw[Below.heap_alloc w' o k (by have:=h.size;omega)];exact h.block k b a
theorem tr(H hw gB g n c:Nat)(DA:Option Addr)(m dc:Nat)(lf:Int)(dn:Bool)(w0:World)(im:List Nat)(R:List Dw)(a v:Nat)(f:Bool)(w:World)(hst:qK H hw gB g n c DA m dc lf dn w0 im R w)(h0:hw<=w0.heap.size)(hH:hw<=H)(hB:gB<H)(ha:a<n)(_hn:n<=2048):
 Calls prog 230 #[.agg #[.int .i64 (a:Int),.int .u64 (v:Int),.bool f],.pointer (some ⟨gB,0,none⟩)] w λe w'=>e=.returned (.bool f)/\qK H hw gB g n c DA m dc lf dn w0 (if f=true then im.set a v else im) R w'/\w.grownBy w' (some g):=by
 have o:=hid (hst.alloc h0 (.cells #[.int .i64 (a:Int),.int .u64 (v:Int),.bool f] 92));have k:=hid ((hst.put hH hB (a:=a) v).alloc h0 (.cells #[.int .i64 (a:Int),.int .u64 (v:Int),.bool f] 92));have j:=(hst.1.alloc (.cells #[.int .i64 (a:Int),.int .u64 (v:Int),.bool f] 92)).c4;obtain⟨s0,-,-,-,-,-,-,-,-⟩:=j;have d:=hst.2.1.alloc (.cells #[.int .i64 (a:Int),.int .u64 (v:Int),.bool f] 92);have q:=hst.2.2.2.2;have b:(im.flatMap aa).length=im.length:=fW im;have i:=d.cellAt a (by omega);rw[kql (by omega)] at i;obtain⟨y,h⟩:=xq ((im.flatMap aa)[a]'(by omega));rw[h] at i;have qf:=d.frozenAt a;have r:=hid (show w.grownBy (w.alloc (.cells #[.int .i64 (a:Int),.int .u64 (v:Int),.bool f] 92)) (some g) from dD ((kqk w.heap.size w).alloc (kqa _) _));have l:=hid (show w.grownBy ((w.setCell ⟨g,a,none⟩ (.int .u64 (v:Int))).alloc (.cells #[.int .i64 (a:Int),.int .u64 (v:Int),.bool f] 92)) (some g) from sB (eB (vs:=[.int .u64 (v:Int)]) (dD (kqk w.heap.size w))) _);have hai:(a:Int)<(n:Int):=by omega
 have ha0:(0:Int)<=(a:Int):=by omega
 have hgw:g<w.heap.size:=(hst.2.1.lt g rfl).2;obtain⟨-,-,r2,-,-,-,-⟩:=((Bx.new w 92 #[.int .i64 (a:Int),.int .u64 (v:Int),.bool f]).far (p:=⟨g,a,none⟩) (show w.heap.size≠g by omega) (.int .u64 (v:Int))).c3;clear hst d q b h;cases f
 .go_enter func230,ntmps230;go_wp2;go_ret;exact⟨rfl,o.out,r.out⟩
 go_enter func230,ntmps230;go_wp2;go_ret;exact⟨rfl,k.out,l.out⟩
open Go.RowKit
def NoF (l:List Dw) (k:Nat):Prop:=∀j (h:j<l.length),j<k->l[j].f=false
theorem NoF.succ(h:NoF l k)(hk:k<l.length)(h1:l[k].f=false):NoF l (k+1):=λj b hjk=>by
 rcases kq6 j k with a|a
 .exact h j b a
 .obtain rfl:j=k:=by omega
  exact h1
theorem mM{a b c:World}(h:a.grownBy b r)(k:b.grownBy c r):a.grownBy c r:=
 ⟨k.os.trans h.os,k.tape.trans h.tape,k.output.trans h.output,kz1 h.size k.size,λi e d=>(k.block i (kjb e h.size) d).trans (h.block i e d)⟩
theorem zQ(H hw gB g n c:Nat)(DA:Option Addr)(dc:Nat)(lf:Int)(dn:Bool)(w0:World)(im:List Nat)(l:List Dw)(w:World)(hst:qK H hw gB g n c DA l.length dc lf dn w0 im l w)(h0:hw<=w0.heap.size)(hH:hw<=H)(hB:gB<H)(hn:n<=2048)(hm:l.length<=1000000)(hat:∀x∈l,0<=x.a/\x.a<(n:Int)):
 Calls prog 271 #[.slice DA l.length dc,.func (.func 230) #[] #[.pointer (some ⟨gB,0,none⟩)]] w λe w'=>((e=.returned (.int .i64 (-1))/\NoF l l.length/\qK H hw gB g n c DA l.length dc lf dn w0 im l w')\/∃(k:Nat) (x:Dw),l[k]? = some x/\e=.returned (.int .i64 (k:Int))/\NoF l k/\x.f=true/\qK H hw gB g n c DA l.length dc lf dn w0 (im.set x.a.toNat x.v) l w')/\w.grownBy w' (some g):=by
 have B:=hid hst;have A:=hid hat;have M:=hid (λa v f W N L=>tr H hw gB g n c DA l.length dc lf dn w0 im l a v f W N h0 hH hB L hn);clear hst hat h0 hH;go_enter func271,ntmps271;go_wp2_with fail;go_loopw [8] (λi wr=>∃k:Nat,k<=l.length/\i=.int .i64 k/\Hid (NoF l k)/\Hid (qK H hw gB g n c DA l.length dc lf dn w0 im l wr)/\Hid (w.grownBy wr (some g))) (λi _=>l.length-(RowKit.intOf i).toNat)
 case atStart=>exact⟨0,kqy _,rfl,hid (λj _ h=>absurd h (by omega)),B,hid (dD (kqk _ _))⟩
 obtain⟨k,hk,rfl,o,z,J⟩:=hrel;by_cases d:k<l.length
 .obtain ⟨b,off,rfl,hbw,E,F,G⟩:=RdQ.at_ (show RdQ wr wr.heap.size DA l from Rd.of_own z.out.2.2.1) d;have r:=hid (λh=>o.out.succ d h);have I:=hid (kql d);obtain⟨x,C⟩:=xq (l[k]);have s:=A.out _ (kqp d);rw[C] at E F G r I s;obtain⟨xa,P,D⟩:=x;dsimp only at E F G s;obtain⟨m,rfl⟩:=kqz s.1;have p:m<n:=by have:=s.2;omega
  have K:=hid (M.out m P D wr z.out p);have hlm:(k:Int)<(l.length:Int):=by omega
  have hk0:(0:Int)<=(k:Int):=by omega
  clear C s p;go_wp2_with fail;refine K.out.mono ?_;rintro e w2 ⟨rfl,q,y⟩;have t:=hid (mM J.out y);have u:=hid q;clear q y;cases D
  .have O:=hid (r.out rfl);go_wp2;go_roundw
   case rel=>exact⟨k+1,by omega,by go_num,O,u,t⟩
   case measure=>simp[RowKit.intOf];omega
  go_wp2;go_ret;exact⟨.inr ⟨k,_,I.out,rfl,o.out,rfl,by simpa using u.out⟩,t.out⟩
 obtain rfl:k=l.length:=by omega
 go_wp2;go_ret;exact⟨.inl ⟨rfl,o.out,z.out⟩,J.out⟩
theorem yt(h:l[k]? = some x):l.take (k+1)=l.take k++[x]:=by rw[List.take_add_one,h];rfl
theorem pF(h:l[k]? = some x):fnQ (l.take (k+1))=fnQ (l.take k)++if x.f=true then [] else [x]:=by unfold fnQ;rw[yt h,kxx];congr 1;cases a:x.f<;>simp[a]
theorem o0(h:l[k]? = some x):fnI im (l.take (k+1))=if x.f=true then (fnI im (l.take k)).set x.a.toNat x.v else fnI im (l.take k):=by
 unfold fnI km;rw[yt h,kxx];cases b:x.f
 .simp[b]
 simp[b]
theorem NoF.take(h:NoF l k):∀x∈l.take k,x.f=false:=λx a=>by obtain⟨j,b,rfl⟩:=kq2 a;rw[kq3] at b;rw[kka];exact h j (by omega) (by omega)
theorem NoF.q(h:NoF l k):fnQ (l.take k)=l.take k:=by unfold fnQ;rw[kvd];intro x a;rw[h.take x a];rfl
theorem NoF.i(h:NoF l k):fnI im (l.take k)=im:=by
 have a:(l.take k).filter (λx=>x.f)=[]:=by rw[kku];intro x b;rw[h.take x b];simp
 unfold fnI;rw[a];rfl
def FnD (im:List Nat) (l R:List Dw) (I:List Nat) (k j:Nat):Prop:=k<j/\j<=l.length/\R.length=l.length/\R.take k=fnQ (l.take j)/\R.drop j=l.drop j/\I=fnI im (l.take j)
theorem FnD.get(h:FnD im l R I k j):R[j]? = l[j]?:=by
 have a:(R.drop j)[0]? = R[j]?:=by simp
 have b:(l.drop j)[0]? = l[j]?:=by simp
 rw[h.2.2.2.2.1,b] at a;exact a.symm
theorem FnD.drop1(h:FnD im l R I k j):R.drop (j+1)=l.drop (j+1):=by have:=congrArg (List.drop 1) h.2.2.2.2.1;rwa [kxg,kxg] at this
theorem FnD.first(hx:l[k]? = some x)(h:NoF l k)(h1:x.f=true):FnD im l l (im.set x.a.toNat x.v) k (k+1):=by
 have hk:k<l.length:=(kq7.1 hx).1;refine⟨by omega,by omega,rfl,?_,rfl,?_⟩
 .rw[pF hx,h.q,if_pos h1,kzr]
 rw[o0 hx,h.i,if_pos h1]
theorem FnD.del(h:FnD im l R I k j)(hx:l[j]? = some x)(h1:x.f=true):FnD im l R (I.set x.a.toNat x.v) k (j+1):=by
 have hj:j<l.length:=(kq7.1 hx).1;refine⟨by have:=h.1;omega,by omega,h.2.2.1,?_,h.drop1,?_⟩
 .rw[pF hx,if_pos h1,kzr];exact h.2.2.2.1
 rw[o0 hx,if_pos h1,<-h.2.2.2.2.2]
theorem FnD.keep(h:FnD im l R I k j)(hx:l[j]? = some x)(h1:x.f=false):FnD im l (R.set k x) I (k+1) (j+1):=by
 have hj:j<l.length:=(kq7.1 hx).1;have c:=h.drop1;obtain⟨g1,g2,a,d,g5,b⟩:=h;refine⟨by omega,by omega,by rw[kq4];exact a,?_,?_,?_⟩
 .rw[pF hx,if_neg (by rw[h1];simp),<-d,kqn (by rw[kq4];omega),List.getElem_set_self,kve (kqa _)]
 .rw[kvf (by omega)];exact c
 rw[o0 hx,if_neg (by rw[h1];simp)];exact b
theorem GL{sz:Nat}{e:TypeId}(h:w.ownsRow H e sz (.slice (some ⟨g,0,none⟩) n c) n xs)(hk:k<=n):w.ownsRow H e sz (.slice (some ⟨g,0,none⟩) k c) k (xs.take (k*sz)):=by
 have a:k*sz<=n*sz:=kxn _ hk;refine⟨by rw[kq3,h.1,kxa a],?_⟩;rcases h.2 with⟨b,-⟩|⟨g',cap,d,b,f,i,h4,j,m,l⟩
 .cases b
 injection b with h8 h9 h10;subst h10;injection h8 with h8;injection h8 with h8;subst h8;exact .inr ⟨g,c,d,rfl,f,i,by omega,j,m,by rw[<-l,kj6,kxa a]⟩
theorem sJ{vs:List Value}{o:Nat}(h:o+vs.length<=xs.length):(rG xs o vs).take o=xs.take o:=by rw[lm _ _ _ h,kz7 (by rw[kq3];omega),kj6,Nat.min_self]
theorem zeroDw(w:World):(zeroValue 92).run prog w=.ok (.agg #[.int .i64 0,.int .u64 0,.bool false]) w:=by kernel_rfl
theorem vl(H hw gB g n c:Nat)(DA:Option Addr)(dc:Nat)(lf:Int)(dn:Bool)(w0:World)(im:List Nat)(l:List Dw)(w:World)(d:qK H hw gB g n c DA l.length dc lf dn w0 im l w)(h0:hw<=w0.heap.size)(hH:hw<=H)(S:gB<H)(hn:n<=2048)(hm:l.length<=1000000)(hat:∀x∈l,0<=x.a/\x.a<(n:Int)):
 Calls prog 229 #[.slice DA l.length dc,.func (.func 230) #[] #[.pointer (some ⟨gB,0,none⟩)]] w λe w'=>(∃A' c',e=.returned (.slice A' (fnQ l).length c')/\w'.ownsRow H 92 3 (.slice A' (fnQ l).length c') (fnQ l).length ((fnQ l).flatMap Dw.cells))/\Bx w' gB 79 #[.slice (some ⟨g,0,none⟩) n c,.slice DA l.length dc,.int .i64 lf,.bool dn]/\w'.ownsRow H 53 1 (.slice (some ⟨g,0,none⟩) n c) n ((fnI im l).flatMap aa)/\Below hw w0 w':=by
 have Jp:=hid (zQ H hw gB g n c DA dc lf dn w0 im l w d h0 hH S hn hm hat);have HST:=hid d;have Jk:=hid hat;have HC:=hid (λJ R a v f W h1 h2=>tr H hw gB g n c DA l.length dc lf dn w0 J R a v f W h1 h0 hH S h2 hn);have HH:=hid (And.intro h0 hH);clear d hat h0 hH;go_enter func229,ntmps229;go_wp2_with fail;refine Jp.out.mono ?_;rintro e w1 ⟨⟨rfl,u,o⟩|⟨k,x,C,rfl,u,Jg,o⟩,Je⟩
 .have t:=hid o;have HQ:=hid (show fnQ l=l by have:=u.q;rwa [kzf] at this);have HI:=hid (show fnI im l=im by have:=u.i (im:=im);rwa [kzf] at this);clear u o Je;go_wp2;go_ret;rw[HQ.out,HI.out];exact⟨⟨DA,dc,rfl,t.out.2.2.1⟩,t.out.1,t.out.2.1,t.out.2.2.2.1⟩
 have hk:k<l.length:=(kq7.1 C).1;have HD:=hid (FnD.first (im:=im) C u Jg);obtain⟨p,cL,eL⟩:=fj o.2.2.1 (by omega);injection eL with e1 e2 e3;subst e1;subst e3;have Jc:=fR o.2.2.1;have F:p≠g:=λh=>by
  rcases fD o.2.2.1 o.2.1 (by decide) with h6|h6
  .cases h6
  exact h6 (by rw[h];rfl)
 have hneB:p≠gB:=by omega
 have t:=hid o;have hwk:IntKind.i64.wrap ((k:Int)+1)=(k:Int)+1:=kqv _ (by omega);have hkm:((k:Int) == -1)=false:=by rw[kqj];omega
 clear u Jg C o Je;go_wp2_with fail;go_loopw [5,6] (λiv jv wr=>∃(i j:Nat) (R:List Dw) (J:List Nat),iv=.int .i64 i/\jv=.int .i64 j/\Hid (FnD im l R J i j)/\Hid (qK H hw gB g n c (some ⟨p,0,none⟩) l.length dc lf dn w0 J R wr)) (λ_ jv _=>l.length-(RowKit.intOf jv).toNat)
 case atStart=>exact⟨k,k+1,l,_,rfl,by go_num,HD,t⟩
 obtain⟨i,j,R,J,rfl,rfl,O,A⟩:=hrel;have d:=O.out;have hRl:=d.2.2.1;have hij:=d.1;have hjl2:=d.2.1;by_cases hlt:j<l.length
 .have X:j<R.length:=by omega
  obtain⟨b,off,eA,hbw,q0,q1,q2⟩:=RdQ.at_ (show RdQ wr wr.heap.size _ R from Rd.of_own A.out.2.2.1) X;cases eA;simp only[kxd] at q0 q1 q2;have z:l[j]? = some R[j]:=by rw[<-d.get,kql X]
  obtain⟨x,C⟩:=xq (R[j]);rw[C] at q0 q1 q2 z;have ht:=Jk.out _ (List.mem_of_getElem? z);have HK:=hid (λh=>O.out.keep z h);have Eq:=hid (λh=>O.out.del z h);obtain⟨xa,s,Z⟩:=x;dsimp only at q0 q1 q2 ht Eq;obtain⟨m,rfl⟩:=kqz ht.1;have Ji:m<n:=by have:=ht.2;omega
  have hlm:(j:Int)<(l.length:Int):=by omega
  have hj0:(0:Int)<=(j:Int):=by omega
  have Jj:(0:Int)<=(i:Int):=by omega
  have V:(i:Int)<(l.length:Int):=by omega
  have BN:=hid (Bx.new wr 92 #[.int .i64 (m:Int),.int .u64 (s:Int),.bool Z]);have SN:=hid (A.out.alloc HH.out.1 (.cells #[.int .i64 (m:Int),.int .u64 (s:Int),.bool Z] 92));have Jo:g<wr.heap.size:=(A.out.2.1.lt g rfl).2;clear C z ht d;go_upto_region 8 with (fail);obtain⟨wn,I⟩:∃wn,wr.alloc (.cells #[.int .i64 (m:Int),.int .u64 (s:Int),.bool Z] 92)=wn:=⟨_,rfl⟩;rw[I] at BN SN |-;have U:wn.heap.size=wr.heap.size+1:=by rw[<-I];simp
  obtain⟨bn,Js⟩:=xq wr.heap.size;rw[Js] at BN U Jo |-;clear I q0 q1 q2;have HQ:=hid (HC.out J R m s Z wn SN.out Ji);obtain⟨p0,p1,p2,-,-,-,hgn⟩:=BN.out.c3;go_wp2_with fail;refine HQ.out.mono ?_;rintro e D ⟨rfl,T,Jb⟩;have Ja:=hid T;have bn2:Bx D bn _ _:=(Jb.block bn (by omega) (by first|exact λe=>by injection e with e;omega|exact λe=>by injection e with e;omega)).trans BN.out;clear T Jb p0 p1 p2;obtain⟨p0,p1,p2,-,-,-,hgn2⟩:=bn2.c3;cases Z
  .have HY:=hid (HK.out rfl);have r:qK H hw gB g n c (some ⟨p,0,none⟩) l.length dc lf dn w0 J R D:=Ja.out;have y:D.there p (i*3) (#[.int .i64 (m:Int),.int .u64 (s:Int),.bool false]:Array Value).size:=jb r.2.2.1 (i*3) 3 (by omega);have Y:(prog.info? 92).map (·.size)=some (#[.int .i64 (m:Int),.int .u64 (s:Int),.bool false]:Array Value).size:=by kernel_rfl
   have Jh:(#[.int .i64 (m:Int),.int .u64 (s:Int),.bool false]:Array Value).all (·.oneCell')=true:=by simp[Value.oneCell']
   have C:=cU (Dw.cells ⟨(m:Int),s,false⟩) (i*3) D _ r.2.2.1;rw[Au R i _ (by omega)] at C;have E:gY D (D.setCells p (i*3) (Dw.cells ⟨(m:Int),s,false⟩)) p:=⟨cD _ _ _,λg' G=>dj G _ _ _,λB S=>aU S _ (kqk _ _)⟩;have YS:Hid (qK H hw gB g n c (some ⟨p,0,none⟩) l.length dc lf dn w0 J (R.set i ⟨(m:Int),s,false⟩) (D.setCells p (i*3) (Dw.cells ⟨(m:Int),s,false⟩))):=hid ⟨E.bx r.1 (by omega),bp r.2.1 E.grown (.inr (λe=>F (by injection e with e;exact e.symm))),C,E.below r.2.2.2.1 (kz1 HH.out.2 Jc),r.2.2.2.2⟩;obtain⟨cs,M⟩:∃cs:Array Value,#[.int .i64 (m:Int),.int .u64 (s:Int),.bool false]=cs:=⟨_,rfl⟩;obtain⟨w3,K⟩:∃w3,D.setCells p (i*3) (Dw.cells ⟨(m:Int),s,false⟩)=w3:=⟨_,rfl⟩;have Jr:D.setCells p (i*3) cs.toList=w3:=by rw[<-M];exact K
   rw[K] at YS;rw[M] at y Y Jh;clear K E C r;go_wp2_with (refine kjh rfl _ _ _ rfl p (i*3) cs (by rfl) (by rw[<-M];rfl) y Y Jh ?_;rw[Jr]);go_roundw
   case rel=>exact⟨i+1,j+1,R.set i ⟨(m:Int),s,false⟩,J,by go_num,by go_num,HY,YS⟩
   case measure=>simp[RowKit.intOf];omega
  have HY:=hid (Eq.out rfl);have Jm:Hid (qK H hw gB g n c (some ⟨p,0,none⟩) l.length dc lf dn w0 (J.set (Int.toNat (m:Int)) s) R D):=hid (by rw[kqi];exact Ja.out);go_wp2;go_roundw
  case rel=>exact⟨i,j+1,R,_,rfl,by go_num,HY,Jm⟩
  case measure=>simp[RowKit.intOf];omega
 have Jd:j=l.length:=by omega
 have hicl0:l.length<=dc:=co A.out.2.2.1;have hicl:(i:Int)<=(dc:Int):=by omega
 have hill:(i:Int)<=(l.length:Int):=by omega
 have Jj:(0:Int)<=(i:Int):=by omega
 have hne:i≠dc:=by omega
 have hnec:¬ ((i:Int)=(dc:Int)):=by omega
 have Jq:=hid (show fnQ l=R.take i by rw[d.2.2.2.1,Jd,kzf]);have Jl:=hid (show fnI im l=J by rw[d.2.2.2.2.2,Jd,kzf]);have Jf:=A.out.2.2.1.1;obtain⟨L,hL⟩:=xq ((Builtin.zeroCells (Value.cells (.agg #[.int .i64 0,.int .u64 0,.bool false])) (l.length-i)).toList);have Q:L.length=(l.length-i)*3:=by rw[<-hL,kq];rfl
 have y:=jb A.out.2.2.1 (i*3) L.length (by rw[Q];omega);have hcl:=jR (P:=prog) wr 77 92 0 _ underlying77 zeroDw L p (i*3) (l.length-i) (dc-i) hL (by omega)
  (λv hv=>by
   rw[<-hL] at hv;have:=kX hv (by decide);simp[Value.cells] at this;rcases this with rfl|rfl|rfl<;>rfl)
  (λq N=>(y q N).1) (λq N=>(y q N).2)
 have E:gY wr (wr.setCells p (i*3) L) p:=⟨cD _ _ _,λg' G=>dj G _ _ _,λB S=>aU S _ (kqk _ _)⟩;have Y0:=hid (E.bx A.out.1 (show gB≠p by omega));have YO:=hid (bp A.out.2.1 E.grown (.inr (λe=>F (by injection e with e;exact e.symm))));have YB:=hid (E.below A.out.2.2.2.1 (kz1 HH.out.2 Jc));have N:=GL (cU L (i*3) wr _ A.out.2.2.1) (k:=i) (by omega);rw[sJ (by rw[Jf,Q];omega),<-fB Dw.cells 3 Dw.len] at N;have YQ:=hid N;have V:(R.take i).length=i:=by rw[kq3];omega
 clear hL Q y d E N Jf;go_wp2;go_ret;rw[Jq.out,Jl.out,V];exact⟨⟨_,_,rfl,YQ.out⟩,Y0.out,YO.out,YB.out⟩
theorem zf(A DA:Option Addr)(im:List Nat)(dw:List Dw)(lf:Int)(dn:Bool)(n c m dc:Nat)(w:World)(hn:im.length=n)(hm:dw.length=m)(hok:fX ⟨im,dw,lf,dn⟩=true)(hm2:m<=1000000)(hi:RdW w w.heap.size A im)(hr:RdQ w w.heap.size DA dw):
 Calls prog 183 #[.agg #[.slice A n c,.slice DA m dc,.int .i64 lf,.bool dn]] w λe w'=>(∃u,e=.returned (.tuple #[u,.int .i64 0])/\ls w' w.heap.size (dvN ⟨im,dw,lf,dn⟩) u)/\Below w.heap.size w w':=by
 have N:=(ch _).1 hok;have hs:=(ae _).1 N.1;dsimp only at hs;have T : -1<=lf/\lf<=1000000:=⟨N.2.1,N.2.2.1⟩;have D:=N.2.2.2.2;dsimp only at D;have Jb:=hid (iQ D);rw[hn] at Jb;have Ja:=hid (λW (h:RdQ W W.heap.size DA dw)=>kR A DA im dw lf dn n c m dc W hn hm (by omega) (by omega) h);rw[show fa ⟨im,dw,lf,dn⟩=0 by unfold fa;rw[if_pos hok]] at Ja;have k:=hid (λW (h:RdW W W.heap.size A im) (h2:RdQ W W.heap.size DA dw)=>mX A DA im dw lf dn n c m dc W hn hm (by omega) (by omega) (by omega) T h h2);unfold ls at k;rw[(om _).1,(om _).2] at k;dsimp only at k;rw[hn,hm] at k;have HR:=hid hi;have HQ:=hid hr;obtain⟨W0,Jm,I,x1,Q,Jf⟩:=mF w A DA lf dn n c m dc;have X0:=hid I;have X1:=hid x1;have P:=hid Q;have j:=hid hn;have J:=hid hm;obtain⟨q0,q1,q2,q3,-,-,-,-,hg⟩:=I.c4;have S:w.heap.size<=W0.heap.size:=by omega
 have Jk:w.heap.size+1<W0.heap.size:=by omega
 have Z:w.heap.size+1≠w.heap.size:=by omega
 have Jj:n<=2048:=by omega
 have Jl:0<n:=by omega
 clear hi hr I x1 Q Jf hn hm N hs D hok;go_enter func183,ntmps183;go_wp2_with fail;clear Jm;refine (Ja.out W0 (HQ.out.up P.out S)).mono ?_;rintro e w1 ⟨rfl,q⟩;have I:=X0.out.up q hg;have b:=hid (P.out.trans (q.mono S));have hz1:=q.size;obtain⟨p0,p1,p2,p3,-,-,-,-,f⟩:=I.c4;have Y0:=hid I;have Y1:=hid (X1.out.up q Jk);have d:w.heap.size+1<w1.heap.size:=by omega
 clear I q q0 q1 q2 q3;go_wp2_with fail;refine (k.out w1 (HR.out.up b.out b.out.size) (HQ.out.up b.out b.out.size)).mono ?_;rintro e w2 ⟨⟨_,rfl,A1,M,G,L,rfl,U,V,O⟩,o⟩;have z:=hid V;have E:=hid O;have Z0:=hid (Y0.out.up o f);have Z1:=hid (Y1.out.up o d);have F:=hid (b.out.trans (o.mono b.out.size));have Je:=o.size;clear o V O p0 p1 p2 p3;by_cases r:lf=0
 .subst r;have HV:Hid (dvN ⟨im,dw,0,dn⟩=⟨im,dw,0,true⟩):=hid (by unfold dvN dvD;rw[if_pos rfl]);rw[pR rfl,show decide ((0:Int)≠0)=false from rfl];unfold dvD;dsimp only;go_wp2_with (first
   | ((with_reducible refine aq 79 (.tmp 1) _ ?_);refine stD Z0.out ?_;intro w3 C a)
   | ((with_reducible refine aH 79 (.tmp 1) ?_);refine ldD C.out ?_)
   | ((with_reducible refine aq 79 (.tmp 2) _ ?_);refine stD (a.out.bx Z1.out Z) ?_;intro w9 y i))
  refine kqr (v:=.tuple #[.agg #[.slice A1 n M,.slice G m L,.int .i64 0,.bool true],.int .i64 0]) (a8 results183 _ y.out rfl rfl rfl) rfl ⟨⟨_,rfl,by
   rw[HV.out];exact⟨A1,M,G,L,by rw[j.out,J.out],by rw[j.out];exact U,by rw[j.out];exact am (ao (ao z.out a.out f) i.out d) b.out.size,by rw[J.out];exact am (ao (ao E.out a.out f) i.out d) b.out.size⟩⟩,i.out.below (a.out.below F.out (kqa _)) (by omega)⟩
 have ed:decide (lf≠0)=true:=by rw[kq0];exact r
 have HV:Hid (dvN ⟨im,dw,lf,dn⟩=⟨fnI im dw,fnQ dw,dec lf,dn⟩):=hid (by unfold dvN;rw[if_neg r]);have Y:dvB ⟨im,dw,lf,dn⟩=⟨im,dw,dec lf,dn⟩:=by unfold dvB;rw[if_neg r]
 rw[ed,Y];dsimp only;obtain⟨l2,Jc⟩:=xq (dec lf);rw[Jc] at HV |-;subst J;clear Jc Y ed r T;go_wp2_with (first
  | (((with_reducible refine aq 79 (.tmp 1) _ ?_);refine stD Z0.out ?_;intro w3 C a);obtain⟨s0,s1,s2,s3,sf0,sf1,sf2,sf3,R⟩:=C.out.c4)
  | ((with_reducible refine aH 79 (.tmp 1) ?_);refine ldD C.out ?_))
 have hw3:w.heap.size<w3.heap.size:=C.out.lt;have X:w1.heap.size<=w3.heap.size:=by have:=a.out.1;omega
 have U1:=hid (a.out.bx Z1.out Z);have Eq:=hid (ao z.out a.out f);have Jg:=hid (ao E.out a.out f);have Jh:=hid (a.out.below F.out (kqa _));obtain⟨g,c9,Jd⟩:=fj Eq.out Jl;injection Jd with e1 e2 e3;subst e1;subst e3;have Ji:(fnI im dw).length=n:=by unfold fnI;rw[ms,j.out]
 clear z E F Z0 Z1 a Je s0 s1 s2 s3 sf0 sf1 sf2 sf3 R;refine (vl w1.heap.size w1.heap.size w.heap.size g n M G L l2 dn w3 im dw w3 ⟨C.out,Eq.out,Jg.out,kqk _ _,j.out⟩ X (kqa _) f Jj hm2 (λx hx=>by have:=Jb.out x hx;omega)).mono ?_;rintro e w4 ⟨⟨t,s,rfl,B⟩,K,l,H⟩;have y1:=U1.out.up H d;have yb:=Jh.out.trans (H.mono b.out.size);have Y0:=hid (show Bx (w4.setCell ⟨w.heap.size,1,none⟩ (.slice t (fnQ dw).length s)) w.heap.size 79 #[.slice (some ⟨g,0,none⟩) n M,.slice t (fnQ dw).length s,.int .i64 l2,.bool dn] from K.set_ 1 _);have Y1:=hid (y1.far (p:=⟨w.heap.size,1,none⟩) (show w.heap.size+1≠w.heap.size by omega) (.slice t (fnQ dw).length s));have YO:=hid (au l (p:=⟨w.heap.size,1,none⟩) (bD l f).symm (.slice t (fnQ dw).length s));have YQ:=hid (au B (p:=⟨w.heap.size,1,none⟩) (bD B f).symm (.slice t (fnQ dw).length s));have YB:=hid (yb.setCell (p:=⟨w.heap.size,1,none⟩) (kqa _) (.slice t (fnQ dw).length s));obtain⟨s0,s1,s2,s3,sf0,sf1,sf2,sf3,R⟩:=K.c4;clear K l B H y1 yb C;go_wp2_with (first
  | ((with_reducible refine aH 79 (.tmp 1) ?_);refine ldD Y0.out ?_)
  | ((with_reducible refine aq 79 (.tmp 2) _ ?_);refine stD Y1.out ?_;intro w9 y i))
 refine kqr (v:=.tuple #[.agg #[.slice (some ⟨g,0,none⟩) n M,.slice t (fnQ dw).length s,.int .i64 l2,.bool dn],.int .i64 0]) (a8 results183 _ y.out rfl rfl rfl) rfl ⟨⟨_,rfl,by
  rw[HV.out];unfold ls;dsimp only;rw[Ji];exact⟨some ⟨g,0,none⟩,M,t,s,rfl,U,am (ao YO.out i.out d) b.out.size,am (ao YQ.out i.out d) b.out.size⟩⟩,i.out.below YB.out (by omega)⟩
theorem t5(w:World)(H:Nat)(e:TypeId)(sz:Nat):w.ownsRow H e sz (.slice none 0 0) 0 []:=⟨by simp,.inl ⟨rfl,rfl⟩⟩
end Go.Proofs.YtpcajamacpbjcaaGreat
