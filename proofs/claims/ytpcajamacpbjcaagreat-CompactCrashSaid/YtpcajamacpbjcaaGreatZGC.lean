/- Devices: what the program returns (a fence's words, one by one). -/
import Derived.Test.YtpcajamacpbjcaaGreatZGB
set_option maxHeartbeats 16000000
set_option maxRecDepth 100000
set_option linter.all false
namespace Go.Proofs.YtpcajamacpbjcaaGreat
open Lib (hid)
open Go.RowKit Go.Lib
variable {dn:Bool}{x:Dw}{lf:Int}{R l:List Dw}{I im:List Nat}{xs:List Value}{H c dc g gB hw j k m n:Nat}{DA:Option Addr}{r:Option Nat}{w w0 wr:World}
open Go.Proofs.Tryz
def rt (H hw gB g n c:Nat) (DA:Option Addr) (m dc:Nat) (lf:Int) (dn:Bool) (w0:World) (im:List Nat) (R:List Dw) (wr:World):Prop:=
 Bx wr gB 79 #[.slice (some ⟨g,0,none⟩) n c,.slice DA m dc,.int .i64 lf,.bool dn]/\wr.ownsRow H 53 1 (.slice (some ⟨g,0,none⟩) n c) n (im.flatMap ab)/\wr.ownsRow H 92 3 (.slice DA m dc) m (R.flatMap Dw.cells)/\Below hw w0 wr/\im.length=n
theorem rt.alloc(h:rt H hw gB g n c DA m dc lf dn w0 im R wr)(h0:hw<=w0.heap.size)(o:Obj):rt H hw gB g n c DA m dc lf dn w0 im R (wr.alloc o):=
 ⟨h.1.alloc o,h.2.1.alloc o,h.2.2.1.alloc o,h.2.2.2.1.alloc (kz5 h0 h.2.2.2.1.size) o,h.2.2.2.2⟩
theorem rt.put(h:rt H hw gB g n c DA m dc lf dn w0 im R wr)(hH:hw<=H)(hB:gB<H){a:Nat}(v:Nat):rt H hw gB g n c DA m dc lf dn w0 (im.set a v) R (wr.setCell ⟨g,a,none⟩ (.int .u64 (v:Int))):=by
 obtain⟨j,b,i,k,l⟩:=h;have hg:H<=g:=gp b;refine⟨j.far (p:=⟨g,a,none⟩) (show gB≠g by omega) _,?_,au i (p:=⟨g,a,none⟩) (λe=>?_) _,k.setCell (p:=⟨g,a,none⟩) (by dsimp only;omega) _,by rw[kq4,l]⟩
 .have f:=eF ab 1 (λ_=>rfl) im a 0 (by omega) v (.int .u64 (v:Int)) (λy _=>rfl);rw[kxo,kz8] at f;rw[f];exact (b.stored a _).1
 rcases fE i b (by decide) with d|d
 .rw[d] at e;cases e
 exact d (by rw[e];rfl)
theorem si{w':World}(h:w.grownBy w' r)(o:Obj):w.grownBy (w'.alloc o) r:=by refine⟨h.os,h.tape,h.output,by rw[kqm];have:=h.size;omega,λk b a=>?_⟩;rw[Below.heap_alloc w' o k (by have:=h.size;omega)];exact h.block k b a
theorem uN(H hw gB g n c:Nat)(DA:Option Addr)(m dc:Nat)(lf:Int)(dn:Bool)(w0:World)(im:List Nat)(R:List Dw)(a v:Nat)(f:Bool)(w:World)(hst:rt H hw gB g n c DA m dc lf dn w0 im R w)(h0:hw<=w0.heap.size)(hH:hw<=H)(hB:gB<H)(ha:a<n)(_hn:n<=2048):
 Calls prog 230 #[.agg #[.int .i64 (a:Int),.int .u64 (v:Int),.bool f],.pointer (some ⟨gB,0,none⟩)] w λe w'=>e=.returned (.bool f)/\rt H hw gB g n c DA m dc lf dn w0 (if f=true then im.set a v else im) R w'/\w.grownBy w' (some g):=by
 have q:=hid (hst.alloc h0 (.cells #[.int .i64 (a:Int),.int .u64 (v:Int),.bool f] 92));have r:=hid ((hst.put hH hB (a:=a) v).alloc h0 (.cells #[.int .i64 (a:Int),.int .u64 (v:Int),.bool f] 92));have o:=(hst.1.alloc (.cells #[.int .i64 (a:Int),.int .u64 (v:Int),.bool f] 92)).c4;obtain⟨s0,-,-,-,-,-,-,-,-⟩:=o;have b:=hst.2.1.alloc (.cells #[.int .i64 (a:Int),.int .u64 (v:Int),.bool f] 92);have j:=hst.2.2.2.2;have d:(im.flatMap ab).length=im.length:=ir im;have h:=b.cellAt a (by omega);rw[kqk (by omega)] at h;obtain⟨y,i⟩:=xq ((im.flatMap ab)[a]'(by omega));rw[i] at h;have qf:=b.frozenAt a;have k:=hid (show w.grownBy (w.alloc (.cells #[.int .i64 (a:Int),.int .u64 (v:Int),.bool f] 92)) (some g) from dI ((kql w.heap.size w).alloc (kqd _) _));have l:=hid (show w.grownBy ((w.setCell ⟨g,a,none⟩ (.int .u64 (v:Int))).alloc (.cells #[.int .i64 (a:Int),.int .u64 (v:Int),.bool f] 92)) (some g) from si (eB (vs:=[.int .u64 (v:Int)]) (dI (kql w.heap.size w))) _);have hai:(a:Int)<(n:Int):=by omega
 have ha0:(0:Int)<=(a:Int):=by omega
 have hgw:g<w.heap.size:=(hst.2.1.lt g rfl).2;obtain⟨-,-,r2,-,-,-,-⟩:=((Bx.new w 92 #[.int .i64 (a:Int),.int .u64 (v:Int),.bool f]).far (p:=⟨g,a,none⟩) (show w.heap.size≠g by omega) (.int .u64 (v:Int))).c3;clear hst b j d i;cases f
 .go_enter func230,ntmps230;go_wp2;go_ret;exact⟨rfl,q.out,k.out⟩
 go_enter func230,ntmps230;go_wp2;go_ret;exact⟨rfl,r.out,l.out⟩
open Go.RowKit
def NoF (l:List Dw) (k:Nat):Prop:=∀j (h:j<l.length),j<k->l[j].f=false
theorem NoF.succ(h:NoF l k)(hk:k<l.length)(h1:l[k].f=false):NoF l (k+1):=λj b hjk=>by
 rcases kq6 j k with a|a
 .exact h j b a
 .obtain rfl:j=k:=by omega
  exact h1
theorem mV{a b c:World}(h:a.grownBy b r)(k:b.grownBy c r):a.grownBy c r:=
 ⟨k.os.trans h.os,k.tape.trans h.tape,k.output.trans h.output,kz5 h.size k.size,λi e d=>(k.block i (kjm e h.size) d).trans (h.block i e d)⟩
theorem Cg(H hw gB g n c:Nat)(DA:Option Addr)(dc:Nat)(lf:Int)(dn:Bool)(w0:World)(im:List Nat)(l:List Dw)(w:World)(hst:rt H hw gB g n c DA l.length dc lf dn w0 im l w)(h0:hw<=w0.heap.size)(hH:hw<=H)(hB:gB<H)(hn:n<=2048)(hm:l.length<=1000000)(hat:∀x∈l,0<=x.a/\x.a<(n:Int)):
 Calls prog 271 #[.slice DA l.length dc,.func (.func 230) #[] #[.pointer (some ⟨gB,0,none⟩)]] w λe w'=>((e=.returned (.int .i64 (-1))/\NoF l l.length/\rt H hw gB g n c DA l.length dc lf dn w0 im l w')\/∃(k:Nat) (x:Dw),l[k]? = some x/\e=.returned (.int .i64 (k:Int))/\NoF l k/\x.f=true/\rt H hw gB g n c DA l.length dc lf dn w0 (im.set x.a.toNat x.v) l w')/\w.grownBy w' (some g):=by
 have B:=hid hst;have A:=hid hat;have N:=hid (λa v f W M P=>uN H hw gB g n c DA l.length dc lf dn w0 im l a v f W M h0 hH hB P hn);clear hst hat h0 hH;go_enter func271,ntmps271;go_wp2_with fail;go_loopw [8] (λi wr=>∃k:Nat,k<=l.length/\i=.int .i64 k/\Hid (NoF l k)/\Hid (rt H hw gB g n c DA l.length dc lf dn w0 im l wr)/\Hid (w.grownBy wr (some g))) (λi _=>l.length-(RowKit.intOf i).toNat)
 case atStart=>exact⟨0,kqy _,rfl,hid (λj _ h=>absurd h (by omega)),B,hid (dI (kql _ _))⟩
 obtain⟨k,hk,rfl,o,z,D⟩:=hrel;by_cases d:k<l.length
 .obtain ⟨b,off,rfl,hbw,F,E,C⟩:=RdQ.at_ (show RdQ wr wr.heap.size DA l from Rd.of_own z.out.2.2.1) d;have y:=hid (λh=>o.out.succ d h);have I:=hid (kqk d);obtain⟨x,G⟩:=xq (l[k]);have p:=A.out _ (kqp d);rw[G] at F E C y I p;obtain⟨xa,L,J⟩:=x;dsimp only at F E C p;obtain⟨m,rfl⟩:=kq1 p.1;have q:m<n:=by have:=p.2;omega
  have K:=hid (N.out m L J wr z.out q);have hlm:(k:Int)<(l.length:Int):=by omega
  have hk0:(0:Int)<=(k:Int):=by omega
  clear G p q;go_wp2_with fail;refine K.out.mono ?_;rintro e w2 ⟨rfl,s,u⟩;have r:=hid (mV D.out u);have t:=hid s;clear s u;cases J
  .have O:=hid (y.out rfl);go_wp2;go_roundw
   case rel=>exact⟨k+1,by omega,by go_num,O,t,r⟩
   case measure=>simp[RowKit.intOf];omega
  go_wp2;go_ret;exact⟨.inr ⟨k,_,I.out,rfl,o.out,rfl,by simpa using t.out⟩,r.out⟩
 obtain rfl:k=l.length:=by omega
 go_wp2;go_ret;exact⟨.inl ⟨rfl,o.out,z.out⟩,D.out⟩
theorem zm(h:l[k]? = some x):l.take (k+1)=l.take k++[x]:=by rw[List.take_add_one,h];rfl
theorem pP(h:l[k]? = some x):fnQ (l.take (k+1))=fnQ (l.take k)++if x.f=true then [] else [x]:=by unfold fnQ;rw[zm h,kx8];congr 1;cases a:x.f<;>simp[a]
theorem pi(h:l[k]? = some x):fnI im (l.take (k+1))=if x.f=true then (fnI im (l.take k)).set x.a.toNat x.v else fnI im (l.take k):=by
 unfold fnI kn;rw[zm h,kx8];cases b:x.f
 .simp[b]
 simp[b]
theorem NoF.take(h:NoF l k):∀x∈l.take k,x.f=false:=λx a=>by obtain⟨j,b,rfl⟩:=kqz a;rw[kq3] at b;rw[kkf];exact h j (by omega) (by omega)
theorem NoF.q(h:NoF l k):fnQ (l.take k)=l.take k:=by unfold fnQ;rw[kvj];intro x a;rw[h.take x a];rfl
theorem NoF.i(h:NoF l k):fnI im (l.take k)=im:=by
 have b:(l.take k).filter (λx=>x.f)=[]:=by rw[kkb];intro x a;rw[h.take x a];simp
 unfold fnI;rw[b];rfl
def FnD (im:List Nat) (l R:List Dw) (I:List Nat) (k j:Nat):Prop:=k<j/\j<=l.length/\R.length=l.length/\R.take k=fnQ (l.take j)/\R.drop j=l.drop j/\I=fnI im (l.take j)
theorem FnD.get(h:FnD im l R I k j):R[j]? = l[j]?:=by
 have a:(R.drop j)[0]? = R[j]?:=by simp
 have b:(l.drop j)[0]? = l[j]?:=by simp
 rw[h.2.2.2.2.1,b] at a;exact a.symm
theorem FnD.drop1(h:FnD im l R I k j):R.drop (j+1)=l.drop (j+1):=by have:=congrArg (List.drop 1) h.2.2.2.2.1;rwa [kxm,kxm] at this
theorem FnD.first(hx:l[k]? = some x)(h:NoF l k)(h1:x.f=true):FnD im l l (im.set x.a.toNat x.v) k (k+1):=by
 have hk:k<l.length:=(kza.1 hx).1;refine⟨by omega,by omega,rfl,?_,rfl,?_⟩
 .rw[pP hx,h.q,if_pos h1,kzs]
 rw[pi hx,h.i,if_pos h1]
theorem FnD.del(h:FnD im l R I k j)(hx:l[j]? = some x)(h1:x.f=true):FnD im l R (I.set x.a.toNat x.v) k (j+1):=by
 have hj:j<l.length:=(kza.1 hx).1;refine⟨by have:=h.1;omega,by omega,h.2.2.1,?_,h.drop1,?_⟩
 .rw[pP hx,if_pos h1,kzs];exact h.2.2.2.1
 rw[pi hx,if_pos h1,<-h.2.2.2.2.2]
theorem FnD.keep(h:FnD im l R I k j)(hx:l[j]? = some x)(h1:x.f=false):FnD im l (R.set k x) I (k+1) (j+1):=by
 have hj:j<l.length:=(kza.1 hx).1;have b:=h.drop1;obtain⟨g1,g2,c,d,g5,a⟩:=h;refine⟨by omega,by omega,by rw[kq4];exact c,?_,?_,?_⟩
 .rw[pP hx,if_neg (by rw[h1];simp),<-d,kqo (by rw[kq4];omega),List.getElem_set_self,kvk (kqd _)]
 .rw[kvl (by omega)];exact b
 rw[pi hx,if_neg (by rw[h1];simp)];exact a
theorem GZ{sz:Nat}{e:TypeId}(h:w.ownsRow H e sz (.slice (some ⟨g,0,none⟩) n c) n xs)(hk:k<=n):w.ownsRow H e sz (.slice (some ⟨g,0,none⟩) k c) k (xs.take (k*sz)):=by
 have a:k*sz<=n*sz:=kxs _ hk;refine⟨by rw[kq3,h.1,kxc a],?_⟩;rcases h.2 with⟨d,-⟩|⟨g',cap,b,d,f,m,h4,l,i,j⟩
 .cases d
 injection d with h8 h9 h10;subst h10;injection h8 with h8;injection h8 with h8;subst h8;exact .inr ⟨g,c,b,rfl,f,m,by omega,l,i,by rw[<-j,kka,kxc a]⟩
theorem tH{vs:List Value}{o:Nat}(h:o+vs.length<=xs.length):(r7 xs o vs).take o=xs.take o:=by rw[lG _ _ _ h,kz9 (by rw[kq3];omega),kka,Nat.min_self]
theorem zeroDw(w:World):(zeroValue 92).run prog w=.ok (.agg #[.int .i64 0,.int .u64 0,.bool false]) w:=by kernel_rfl
theorem vV(H hw gB g n c:Nat)(DA:Option Addr)(dc:Nat)(lf:Int)(dn:Bool)(w0:World)(im:List Nat)(l:List Dw)(w:World)(d:rt H hw gB g n c DA l.length dc lf dn w0 im l w)(h0:hw<=w0.heap.size)(hH:hw<=H)(S:gB<H)(hn:n<=2048)(hm:l.length<=1000000)(hat:∀x∈l,0<=x.a/\x.a<(n:Int)):
 Calls prog 229 #[.slice DA l.length dc,.func (.func 230) #[] #[.pointer (some ⟨gB,0,none⟩)]] w λe w'=>(∃A' c',e=.returned (.slice A' (fnQ l).length c')/\w'.ownsRow H 92 3 (.slice A' (fnQ l).length c') (fnQ l).length ((fnQ l).flatMap Dw.cells))/\Bx w' gB 79 #[.slice (some ⟨g,0,none⟩) n c,.slice DA l.length dc,.int .i64 lf,.bool dn]/\w'.ownsRow H 53 1 (.slice (some ⟨g,0,none⟩) n c) n ((fnI im l).flatMap ab)/\Below hw w0 w':=by
 have Jj:=hid (Cg H hw gB g n c DA dc lf dn w0 im l w d h0 hH S hn hm hat);have HST:=hid d;have Jl:=hid hat;have HC:=hid (λJ R a v f W h1 h2=>uN H hw gB g n c DA l.length dc lf dn w0 J R a v f W h1 h0 hH S h2 hn);have HH:=hid (And.intro h0 hH);clear d hat h0 hH;go_enter func229,ntmps229;go_wp2_with fail;refine Jj.out.mono ?_;rintro e w1 ⟨⟨rfl,y,o⟩|⟨k,x,C,rfl,y,V,o⟩,Jg⟩
 .have u:=hid o;have HQ:=hid (show fnQ l=l by have:=y.q;rwa [kzn] at this);have HI:=hid (show fnI im l=im by have:=y.i (im:=im);rwa [kzn] at this);clear y o Jg;go_wp2;go_ret;rw[HQ.out,HI.out];exact⟨⟨DA,dc,rfl,u.out.2.2.1⟩,u.out.1,u.out.2.1,u.out.2.2.2.1⟩
 have hk:k<l.length:=(kza.1 C).1;have HD:=hid (FnD.first (im:=im) C y V);obtain⟨p,cL,eL⟩:=fK o.2.2.1 (by omega);injection eL with e1 e2 e3;subst e1;subst e3;have Je:=gp o.2.2.1;have F:p≠g:=λh=>by
  rcases fE o.2.2.1 o.2.1 (by decide) with h6|h6
  .cases h6
  exact h6 (by rw[h];rfl)
 have hneB:p≠gB:=by omega
 have u:=hid o;have hwk:IntKind.i64.wrap ((k:Int)+1)=(k:Int)+1:=kqs _ (by omega);have hkm:((k:Int) == -1)=false:=by rw[kqi];omega
 clear y V C o Jg;go_wp2_with fail;go_loopw [5,6] (λiv jv wr=>∃(i j:Nat) (R:List Dw) (J:List Nat),iv=.int .i64 i/\jv=.int .i64 j/\Hid (FnD im l R J i j)/\Hid (rt H hw gB g n c (some ⟨p,0,none⟩) l.length dc lf dn w0 J R wr)) (λ_ jv _=>l.length-(RowKit.intOf jv).toNat)
 case atStart=>exact⟨k,k+1,l,_,rfl,by go_num,HD,u⟩
 obtain⟨i,j,R,J,rfl,rfl,M,A⟩:=hrel;have d:=M.out;have hRl:=d.2.2.1;have hij:=d.1;have hjl2:=d.2.1;by_cases hlt:j<l.length
 .have Jh:j<R.length:=by omega
  obtain⟨b,off,eA,hbw,q0,q1,q2⟩:=RdQ.at_ (show RdQ wr wr.heap.size _ R from Rd.of_own A.out.2.2.1) Jh;cases eA;simp only[kxa] at q0 q1 q2;have z:l[j]? = some R[j]:=by rw[<-d.get,kqk Jh]
  obtain⟨x,C⟩:=xq (R[j]);rw[C] at q0 q1 q2 z;have ht:=Jl.out _ (List.mem_of_getElem? z);have HK:=hid (λh=>M.out.keep z h);have T:=hid (λh=>M.out.del z h);obtain⟨xa,r,Y⟩:=x;dsimp only at q0 q1 q2 ht T;obtain⟨m,rfl⟩:=kq1 ht.1;have Ji:m<n:=by have:=ht.2;omega
  have hlm:(j:Int)<(l.length:Int):=by omega
  have hj0:(0:Int)<=(j:Int):=by omega
  have Js:(0:Int)<=(i:Int):=by omega
  have Eq:(i:Int)<(l.length:Int):=by omega
  have BN:=hid (Bx.new wr 92 #[.int .i64 (m:Int),.int .u64 (r:Int),.bool Y]);have SN:=hid (A.out.alloc HH.out.1 (.cells #[.int .i64 (m:Int),.int .u64 (r:Int),.bool Y] 92));have Jq:g<wr.heap.size:=(A.out.2.1.lt g rfl).2;clear C z ht d;go_upto_region 8 with (fail);obtain⟨wn,G⟩:∃wn,wr.alloc (.cells #[.int .i64 (m:Int),.int .u64 (r:Int),.bool Y] 92)=wn:=⟨_,rfl⟩;rw[G] at BN SN |-;have U:wn.heap.size=wr.heap.size+1:=by rw[<-G];simp
  obtain⟨bn,Jk⟩:=xq wr.heap.size;rw[Jk] at BN U Jq |-;clear G q0 q1 q2;have HQ:=hid (HC.out J R m r Y wn SN.out Ji);obtain⟨p0,p1,p2,-,-,-,hgn⟩:=BN.out.c3;go_wp2_with fail;refine HQ.out.mono ?_;rintro e D ⟨rfl,Z,Jd⟩;have Jc:=hid Z;have bn2:Bx D bn _ _:=(Jd.block bn (by omega) (by first|exact λe=>by injection e with e;omega|exact λe=>by injection e with e;omega)).trans BN.out;clear Z Jd p0 p1 p2;obtain⟨p0,p1,p2,-,-,-,hgn2⟩:=bn2.c3;cases Y
  .have HY:=hid (HK.out rfl);have s:rt H hw gB g n c (some ⟨p,0,none⟩) l.length dc lf dn w0 J R D:=Jc.out;have t:D.there p (i*3) (#[.int .i64 (m:Int),.int .u64 (r:Int),.bool false]:Array Value).size:=jl s.2.2.1 (i*3) 3 (by omega);have Jb:(prog.info? 92).map (·.size)=some (#[.int .i64 (m:Int),.int .u64 (r:Int),.bool false]:Array Value).size:=by kernel_rfl
   have Ja:(#[.int .i64 (m:Int),.int .u64 (r:Int),.bool false]:Array Value).all (·.oneCell')=true:=by simp[Value.oneCell']
   have C:=de (Dw.cells ⟨(m:Int),r,false⟩) (i*3) D _ s.2.2.1;rw[AG R i _ (by omega)] at C;have E:iq D (D.setCells p (i*3) (Dw.cells ⟨(m:Int),r,false⟩)) p:=⟨cV _ _ _,λg' K=>dr K _ _ _,λB S=>aU S _ (kql _ _)⟩;have YS:Hid (rt H hw gB g n c (some ⟨p,0,none⟩) l.length dc lf dn w0 J (R.set i ⟨(m:Int),r,false⟩) (D.setCells p (i*3) (Dw.cells ⟨(m:Int),r,false⟩))):=hid ⟨E.bx s.1 (by omega),bu s.2.1 E.grown (.inr (λe=>F (by injection e with e;exact e.symm))),C,E.below s.2.2.2.1 (kz5 HH.out.2 Je),s.2.2.2.2⟩;obtain⟨cs,I⟩:∃cs:Array Value,#[.int .i64 (m:Int),.int .u64 (r:Int),.bool false]=cs:=⟨_,rfl⟩;obtain⟨w3,O⟩:∃w3,D.setCells p (i*3) (Dw.cells ⟨(m:Int),r,false⟩)=w3:=⟨_,rfl⟩;have Jr:D.setCells p (i*3) cs.toList=w3:=by rw[<-I];exact O
   rw[O] at YS;rw[I] at t Jb Ja;clear O E C s;go_wp2_with (refine kjo rfl _ _ _ rfl p (i*3) cs (by rfl) (by rw[<-I];rfl) t Jb Ja ?_;rw[Jr]);go_roundw
   case rel=>exact⟨i+1,j+1,R.set i ⟨(m:Int),r,false⟩,J,by go_num,by go_num,HY,YS⟩
   case measure=>simp[RowKit.intOf];omega
  have HY:=hid (T.out rfl);have Jo:Hid (rt H hw gB g n c (some ⟨p,0,none⟩) l.length dc lf dn w0 (J.set (Int.toNat (m:Int)) r) R D):=hid (by rw[kqj];exact Jc.out);go_wp2;go_roundw
  case rel=>exact⟨i,j+1,R,_,rfl,by go_num,HY,Jo⟩
  case measure=>simp[RowKit.intOf];omega
 have X:j=l.length:=by omega
 have hicl0:l.length<=dc:=aZ A.out.2.2.1;have hicl:(i:Int)<=(dc:Int):=by omega
 have hill:(i:Int)<=(l.length:Int):=by omega
 have Js:(0:Int)<=(i:Int):=by omega
 have hne:i≠dc:=by omega
 have hnec:¬ ((i:Int)=(dc:Int)):=by omega
 have Jm:=hid (show fnQ l=R.take i by rw[d.2.2.2.1,X,kzn]);have Jp:=hid (show fnI im l=J by rw[d.2.2.2.2.2,X,kzn]);have Jf:=A.out.2.2.1.1;obtain⟨L,hL⟩:=xq ((Builtin.zeroCells (Value.cells (.agg #[.int .i64 0,.int .u64 0,.bool false])) (l.length-i)).toList);have N:L.length=(l.length-i)*3:=by rw[<-hL,kH];rfl
 have t:=jl A.out.2.2.1 (i*3) L.length (by rw[N];omega);have hcl:=jR (P:=prog) wr 77 92 0 _ underlying77 zeroDw L p (i*3) (l.length-i) (dc-i) hL (by omega)
  (λv hv=>by
   rw[<-hL] at hv;have:=kW hv (by decide);simp[Value.cells] at this;rcases this with rfl|rfl|rfl<;>rfl)
  (λq Q=>(t q Q).1) (λq Q=>(t q Q).2)
 have E:iq wr (wr.setCells p (i*3) L) p:=⟨cV _ _ _,λg' K=>dr K _ _ _,λB S=>aU S _ (kql _ _)⟩;have Y0:=hid (E.bx A.out.1 (show gB≠p by omega));have YO:=hid (bu A.out.2.1 E.grown (.inr (λe=>F (by injection e with e;exact e.symm))));have YB:=hid (E.below A.out.2.2.2.1 (kz5 HH.out.2 Je));have Q:=GZ (de L (i*3) wr _ A.out.2.2.1) (k:=i) (by omega);rw[tH (by rw[Jf,N];omega),<-gU Dw.cells 3 Dw.len] at Q;have YQ:=hid Q;have Eq:(R.take i).length=i:=by rw[kq3];omega
 clear hL N t d E Q Jf;go_wp2;go_ret;rw[Jm.out,Jp.out,Eq];exact⟨⟨_,_,rfl,YQ.out⟩,Y0.out,YO.out,YB.out⟩
theorem AZ(A DA:Option Addr)(im:List Nat)(dw:List Dw)(lf:Int)(dn:Bool)(n c m dc:Nat)(w:World)(hn:im.length=n)(hm:dw.length=m)(hok:eW ⟨im,dw,lf,dn⟩=true)(hm2:m<=1000000)(hi:RdW w w.heap.size A im)(hr:RdQ w w.heap.size DA dw):
 Calls prog 183 #[.agg #[.slice A n c,.slice DA m dc,.int .i64 lf,.bool dn]] w λe w'=>(∃u,e=.returned (.tuple #[u,.int .i64 0])/\mh w' w.heap.size (dvN ⟨im,dw,lf,dn⟩) u)/\Below w.heap.size w w':=by
 have Y:=(bH _).1 hok;have hs:=(aa _).1 Y.1;dsimp only at hs;have X : -1<=lf/\lf<=1000000:=⟨Y.2.1,Y.2.2.1⟩;have E:=Y.2.2.2.2;dsimp only at E;have T:=hid (fL E);rw[hn] at T;have R:=hid (λW (h:RdQ W W.heap.size DA dw)=>kZ A DA im dw lf dn n c m dc W hn hm (by omega) (by omega) h);rw[show ff ⟨im,dw,lf,dn⟩=0 by unfold ff;rw[if_pos hok]] at R;have j:=hid (λW (h:RdW W W.heap.size A im) (h2:RdQ W W.heap.size DA dw)=>mY A DA im dw lf dn n c m dc W hn hm (by omega) (by omega) (by omega) X h h2);unfold mh at j;rw[(oH _).1,(oH _).2] at j;dsimp only at j;rw[hn,hm] at j;have HR:=hid hi;have HQ:=hid hr;obtain⟨W0,Jj,B,x1,P,Jl⟩:=mL w A DA lf dn n c m dc;have X0:=hid B;have X1:=hid x1;have S:=hid P;have q:=hid hn;have K:=hid hm;obtain⟨q0,q1,q2,q3,-,-,-,-,hg⟩:=B.c4;have Jb:w.heap.size<=W0.heap.size:=by omega
 have Jp:w.heap.size+1<W0.heap.size:=by omega
 have Q:w.heap.size+1≠w.heap.size:=by omega
 have Jh:n<=2048:=by omega
 have Ji:0<n:=by omega
 clear hi hr B x1 P Jl hn hm Y hs E hok;go_enter func183,ntmps183;go_wp2_with fail;clear Jj;refine (R.out W0 (HQ.out.up S.out Jb)).mono ?_;rintro e w1 ⟨rfl,k⟩;have B:=X0.out.up k hg;have b:=hid (S.out.trans (k.mono Jb));have hz1:=k.size;obtain⟨p0,p1,p2,p3,-,-,-,-,f⟩:=B.c4;have Y0:=hid B;have Y1:=hid (X1.out.up k Jp);have d:w.heap.size+1<w1.heap.size:=by omega
 clear B k q0 q1 q2 q3;go_wp2_with fail;refine (j.out w1 (HR.out.up b.out b.out.size) (HQ.out.up b.out b.out.size)).mono ?_;rintro e w2 ⟨⟨_,rfl,A1,M,I,y,rfl,Ja,Jf,Jc⟩,r⟩;have G:=hid Jf;have J:=hid Jc;have Z0:=hid (Y0.out.up r f);have Z1:=hid (Y1.out.up r d);have F:=hid (b.out.trans (r.mono b.out.size));have Jm:=r.size;clear r Jf Jc p0 p1 p2 p3;by_cases o:lf=0
 .subst o;have HV:Hid (dvN ⟨im,dw,0,dn⟩=⟨im,dw,0,true⟩):=hid (by unfold dvN dvD;rw[if_pos rfl]);rw[qh rfl,show decide ((0:Int)≠0)=false from rfl];unfold dvD;dsimp only;go_wp2_with (first
   | ((with_reducible refine aq 79 (.tmp 1) _ ?_);refine stD Z0.out ?_;intro O C a)
   | ((with_reducible refine aM 79 (.tmp 1) ?_);refine ldD C.out ?_)
   | ((with_reducible refine aq 79 (.tmp 2) _ ?_);refine stD (a.out.bx Z1.out Q) ?_;intro w9 D i))
  refine kqr (v:=.tuple #[.agg #[.slice A1 n M,.slice I m y,.int .i64 0,.bool true],.int .i64 0]) (a9 results183 _ D.out rfl rfl rfl) rfl ⟨⟨_,rfl,by
   rw[HV.out];exact⟨A1,M,I,y,by rw[q.out,K.out],by rw[q.out];exact Ja,by rw[q.out];exact ao (ap (ap G.out a.out f) i.out d) b.out.size,by rw[K.out];exact ao (ap (ap J.out a.out f) i.out d) b.out.size⟩⟩,i.out.below (a.out.below F.out (kqd _)) (by omega)⟩
 have ed:decide (lf≠0)=true:=by rw[kqn];exact o
 have HV:Hid (dvN ⟨im,dw,lf,dn⟩=⟨fnI im dw,fnQ dw,dec lf,dn⟩):=hid (by unfold dvN;rw[if_neg o]);have Jd:dvB ⟨im,dw,lf,dn⟩=⟨im,dw,dec lf,dn⟩:=by unfold dvB;rw[if_neg o]
 rw[ed,Jd];dsimp only;obtain⟨l2,Je⟩:=xq (dec lf);rw[Je] at HV |-;subst K;clear Je Jd ed o X;go_wp2_with (first
  | (((with_reducible refine aq 79 (.tmp 1) _ ?_);refine stD Z0.out ?_;intro O C a);obtain⟨s0,s1,s2,s3,V,U,sf2,Z,slt⟩:=C.out.c4)
  | ((with_reducible refine aM 79 (.tmp 1) ?_);refine ldD C.out ?_))
 have hw3:w.heap.size<O.heap.size:=C.out.lt;have Eq:w1.heap.size<=O.heap.size:=by have:=a.out.1;omega
 have U1:=hid (a.out.bx Z1.out Q);have N:=hid (ap G.out a.out f);have Jo:=hid (ap J.out a.out f);have Jq:=hid (a.out.below F.out (kqd _));obtain⟨g,c9,Jg⟩:=fK N.out Ji;injection Jg with e1 e2 e3;subst e1;subst e3;have Jk:(fnI im dw).length=n:=by unfold fnI;rw[my,q.out]
 clear G J F Z0 Z1 a Jm s0 s1 s2 s3 V U sf2 Z slt;refine (vV w1.heap.size w1.heap.size w.heap.size g n M I y l2 dn O im dw O ⟨C.out,N.out,Jo.out,kql _ _,q.out⟩ Eq (kqd _) f Jh hm2 (λx hx=>by have:=T.out x hx;omega)).mono ?_;rintro e w4 ⟨⟨s,t,rfl,H⟩,L,l,z⟩;have y1:=U1.out.up z d;have yb:=Jq.out.trans (z.mono b.out.size);have Y0:=hid (show Bx (w4.setCell ⟨w.heap.size,1,none⟩ (.slice s (fnQ dw).length t)) w.heap.size 79 #[.slice (some ⟨g,0,none⟩) n M,.slice s (fnQ dw).length t,.int .i64 l2,.bool dn] from L.set_ 1 _);have Y1:=hid (y1.far (p:=⟨w.heap.size,1,none⟩) (show w.heap.size+1≠w.heap.size by omega) (.slice s (fnQ dw).length t));have YO:=hid (au l (p:=⟨w.heap.size,1,none⟩) (bK l f).symm (.slice s (fnQ dw).length t));have YQ:=hid (au H (p:=⟨w.heap.size,1,none⟩) (bK H f).symm (.slice s (fnQ dw).length t));have YB:=hid (yb.setCell (p:=⟨w.heap.size,1,none⟩) (kqd _) (.slice s (fnQ dw).length t));obtain⟨s0,s1,s2,s3,V,U,sf2,Z,slt⟩:=L.c4;clear L l H z y1 yb C;go_wp2_with (first
  | ((with_reducible refine aM 79 (.tmp 1) ?_);refine ldD Y0.out ?_)
  | ((with_reducible refine aq 79 (.tmp 2) _ ?_);refine stD Y1.out ?_;intro w9 D i))
 refine kqr (v:=.tuple #[.agg #[.slice (some ⟨g,0,none⟩) n M,.slice s (fnQ dw).length t,.int .i64 l2,.bool dn],.int .i64 0]) (a9 results183 _ D.out rfl rfl rfl) rfl ⟨⟨_,rfl,by
  rw[HV.out];unfold mh;dsimp only;rw[Jk];exact⟨some ⟨g,0,none⟩,M,s,t,rfl,Ja,ao (ap YO.out i.out d) b.out.size,ao (ap YQ.out i.out d) b.out.size⟩⟩,i.out.below YB.out (by omega)⟩
theorem uM(w:World)(H:Nat)(e:TypeId)(sz:Nat):w.ownsRow H e sz (.slice none 0 0) 0 []:=⟨by simp,.inl ⟨rfl,rfl⟩⟩
end Go.Proofs.YtpcajamacpbjcaaGreat
