/- Devices: what the program returns (a fence's words, one by one). -/
import Derived.Test.YtpcajamacpbjcaaGreatZGB
set_option maxHeartbeats 16000000
set_option maxRecDepth 100000
set_option linter.all false
namespace Go.Proofs.YtpcajamacpbjcaaGreat
open Lib (hid)
open Go.RowKit Go.Lib
variable {dn:Bool}{x:Dw}{lf:Int}{R l:List Dw}{I im:List Nat}{xs:List Value}{H c dc g gB hw j k m n:Nat}{DA:Option Addr}{r:Option Nat}{w w0 wr:World}
open Go.Proofs.Tryz
def sF (H hw gB g n c:Nat) (DA:Option Addr) (m dc:Nat) (lf:Int) (dn:Bool) (w0:World) (im:List Nat) (R:List Dw) (wr:World):Prop:=
 Bx wr gB 79 #[.slice (some ⟨g,0,none⟩) n c,.slice DA m dc,.int .i64 lf,.bool dn]/\wr.ownsRow H 53 1 (.slice (some ⟨g,0,none⟩) n c) n (im.flatMap ag)/\wr.ownsRow H 92 3 (.slice DA m dc) m (R.flatMap Dw.cells)/\Below hw w0 wr/\im.length=n
theorem sF.alloc(h:sF H hw gB g n c DA m dc lf dn w0 im R wr)(h0:hw<=w0.heap.size)(o:Obj):sF H hw gB g n c DA m dc lf dn w0 im R (wr.alloc o):=
 ⟨h.1.alloc o,h.2.1.alloc o,h.2.2.1.alloc o,h.2.2.2.1.alloc (kz3 h0 h.2.2.2.1.size) o,h.2.2.2.2⟩
theorem sF.put(h:sF H hw gB g n c DA m dc lf dn w0 im R wr)(hH:hw<=H)(hB:gB<H){a:Nat}(v:Nat):sF H hw gB g n c DA m dc lf dn w0 (im.set a v) R (wr.setCell ⟨g,a,none⟩ (.int .u64 (v:Int))):=by
 obtain⟨l,d,f,k,j⟩:=h;have hg:H<=g:=gG d;refine⟨l.far (p:=⟨g,a,none⟩) (show gB≠g by omega) _,?_,av f (p:=⟨g,a,none⟩) (λe=>?_) _,k.setCell (p:=⟨g,a,none⟩) (by dsimp only;omega) _,by rw[kq4,j]⟩
 .have i:=eI ag 1 (λ_=>rfl) im a 0 (by omega) v (.int .u64 (v:Int)) (λy _=>rfl);rw[kxm,kz8] at i;rw[i];exact (d.stored a _).1
 rcases fO f d (by decide) with b|b
 .rw[b] at e;cases e
 exact b (by rw[e];rfl)
theorem tU{w':World}(h:w.grownBy w' r)(o:Obj):w.grownBy (w'.alloc o) r:=by refine⟨h.os,h.tape,h.output,by rw[kqm];have:=h.size;omega,λk b a=>?_⟩;rw[Below.heap_alloc w' o k (by have:=h.size;omega)];exact h.block k b a
theorem uI(H hw gB g n c:Nat)(DA:Option Addr)(m dc:Nat)(lf:Int)(dn:Bool)(w0:World)(im:List Nat)(R:List Dw)(a v:Nat)(f:Bool)(w:World)(hst:sF H hw gB g n c DA m dc lf dn w0 im R w)(h0:hw<=w0.heap.size)(hH:hw<=H)(hB:gB<H)(ha:a<n)(_hn:n<=2048):
 Calls prog 230 #[.agg #[.int .i64 (a:Int),.int .u64 (v:Int),.bool f],.pointer (some ⟨gB,0,none⟩)] w λe w'=>e=.returned (.bool f)/\sF H hw gB g n c DA m dc lf dn w0 (if f=true then im.set a v else im) R w'/\w.grownBy w' (some g):=by
 have j:=hid (hst.alloc h0 (.cells #[.int .i64 (a:Int),.int .u64 (v:Int),.bool f] 92));have l:=hid ((hst.put hH hB (a:=a) v).alloc h0 (.cells #[.int .i64 (a:Int),.int .u64 (v:Int),.bool f] 92));have k:=(hst.1.alloc (.cells #[.int .i64 (a:Int),.int .u64 (v:Int),.bool f] 92)).c4;obtain⟨s0,-,-,-,-,-,-,-,-⟩:=k;have d:=hst.2.1.alloc (.cells #[.int .i64 (a:Int),.int .u64 (v:Int),.bool f] 92);have o:=hst.2.2.2.2;have b:(im.flatMap ag).length=im.length:=io im;have h:=d.cellAt a (by omega);rw[kql (by omega)] at h;obtain⟨y,i⟩:=xq ((im.flatMap ag)[a]'(by omega));rw[i] at h;have qf:=d.frozenAt a;have r:=hid (show w.grownBy (w.alloc (.cells #[.int .i64 (a:Int),.int .u64 (v:Int),.bool f] 92)) (some g) from dQ ((kqk w.heap.size w).alloc (kqa _) _));have q:=hid (show w.grownBy ((w.setCell ⟨g,a,none⟩ (.int .u64 (v:Int))).alloc (.cells #[.int .i64 (a:Int),.int .u64 (v:Int),.bool f] 92)) (some g) from tU (eF (vs:=[.int .u64 (v:Int)]) (dQ (kqk w.heap.size w))) _);have hai:(a:Int)<(n:Int):=by omega
 have ha0:(0:Int)<=(a:Int):=by omega
 have hgw:g<w.heap.size:=(hst.2.1.lt g rfl).2;obtain⟨-,-,r2,-,-,-,-⟩:=((Bx.new w 92 #[.int .i64 (a:Int),.int .u64 (v:Int),.bool f]).far (p:=⟨g,a,none⟩) (show w.heap.size≠g by omega) (.int .u64 (v:Int))).c3;clear hst d o b i;cases f
 .go_enter func230,ntmps230;go_wp2;go_ret;exact⟨rfl,j.out,r.out⟩
 go_enter func230,ntmps230;go_wp2;go_ret;exact⟨rfl,l.out,q.out⟩
open Go.RowKit
def NoF (l:List Dw) (k:Nat):Prop:=∀j (h:j<l.length),j<k->l[j].f=false
theorem NoF.succ(h:NoF l k)(hk:k<l.length)(h1:l[k].f=false):NoF l (k+1):=λj b hjk=>by
 rcases kq6 j k with a|a
 .exact h j b a
 .obtain rfl:j=k:=by omega
  exact h1
theorem nh{a b c:World}(h:a.grownBy b r)(k:b.grownBy c r):a.grownBy c r:=
 ⟨k.os.trans h.os,k.tape.trans h.tape,k.output.trans h.output,kz3 h.size k.size,λi e d=>(k.block i (kjs e h.size) d).trans (h.block i e d)⟩
theorem Ai(H hw gB g n c:Nat)(DA:Option Addr)(dc:Nat)(lf:Int)(dn:Bool)(w0:World)(im:List Nat)(l:List Dw)(w:World)(hst:sF H hw gB g n c DA l.length dc lf dn w0 im l w)(h0:hw<=w0.heap.size)(hH:hw<=H)(hB:gB<H)(hn:n<=2048)(hm:l.length<=1000000)(hat:∀x∈l,0<=x.a/\x.a<(n:Int)):
 Calls prog 271 #[.slice DA l.length dc,.func (.func 230) #[] #[.pointer (some ⟨gB,0,none⟩)]] w λe w'=>((e=.returned (.int .i64 (-1))/\NoF l l.length/\sF H hw gB g n c DA l.length dc lf dn w0 im l w')\/∃(k:Nat) (x:Dw),l[k]? = some x/\e=.returned (.int .i64 (k:Int))/\NoF l k/\x.f=true/\sF H hw gB g n c DA l.length dc lf dn w0 (im.set x.a.toNat x.v) l w')/\w.grownBy w' (some g):=by
 have z:=hid hst;have A:=hid hat;have L:=hid (λa v f W N P=>uI H hw gB g n c DA l.length dc lf dn w0 im l a v f W N h0 hH hB P hn);clear hst hat h0 hH;go_enter func271,ntmps271;go_wp2_with fail;go_loopw [8] (λi wr=>∃k:Nat,k<=l.length/\i=.int .i64 k/\Hid (NoF l k)/\Hid (sF H hw gB g n c DA l.length dc lf dn w0 im l wr)/\Hid (w.grownBy wr (some g))) (λi _=>l.length-(RowKit.intOf i).toNat)
 case atStart=>exact⟨0,kqy _,rfl,hid (λj _ h=>absurd h (by omega)),z,hid (dQ (kqk _ _))⟩
 obtain⟨k,hk,rfl,o,B,F⟩:=hrel;by_cases d:k<l.length
 .obtain ⟨b,off,rfl,hbw,G,D,I⟩:=RdQ.at_ (show RdQ wr wr.heap.size DA l from Rd.of_own B.out.2.2.1) d;have s:=hid (λh=>o.out.succ d h);have J:=hid (kql d);obtain⟨x,E⟩:=xq (l[k]);have r:=A.out _ (kqq d);rw[E] at G D I s J r;obtain⟨xa,K,C⟩:=x;dsimp only at G D I r;obtain⟨m,rfl⟩:=kq2 r.1;have t:m<n:=by have:=r.2;omega
  have O:=hid (L.out m K C wr B.out t);have hlm:(k:Int)<(l.length:Int):=by omega
  have hk0:(0:Int)<=(k:Int):=by omega
  clear E r t;go_wp2_with fail;refine O.out.mono ?_;rintro e w2 ⟨rfl,y,p⟩;have u:=hid (nh F.out p);have q:=hid y;clear y p;cases C
  .have M:=hid (s.out rfl);go_wp2;go_roundw
   case rel=>exact⟨k+1,by omega,by go_num,M,q,u⟩
   case measure=>simp[RowKit.intOf];omega
  go_wp2;go_ret;exact⟨.inr ⟨k,_,J.out,rfl,o.out,rfl,by simpa using q.out⟩,u.out⟩
 obtain rfl:k=l.length:=by omega
 go_wp2;go_ret;exact⟨.inl ⟨rfl,o.out,B.out⟩,F.out⟩
theorem Ba(h:l[k]? = some x):l.take (k+1)=l.take k++[x]:=by rw[List.take_add_one,h];rfl
theorem qB(h:l[k]? = some x):fnQ (l.take (k+1))=fnQ (l.take k)++if x.f=true then [] else [x]:=by unfold fnQ;rw[Ba h,kx8];congr 1;cases a:x.f<;>simp[a]
theorem qG(h:l[k]? = some x):fnI im (l.take (k+1))=if x.f=true then (fnI im (l.take k)).set x.a.toNat x.v else fnI im (l.take k):=by
 unfold fnI ku;rw[Ba h,kx8];cases b:x.f
 .simp[b]
 simp[b]
theorem NoF.take(h:NoF l k):∀x∈l.take k,x.f=false:=λx b=>by obtain⟨j,a,rfl⟩:=kqz b;rw[kq3] at a;rw[kkk];exact h j (by omega) (by omega)
theorem NoF.q(h:NoF l k):fnQ (l.take k)=l.take k:=by unfold fnQ;rw[kkb];intro x a;rw[h.take x a];rfl
theorem NoF.i(h:NoF l k):fnI im (l.take k)=im:=by
 have a:(l.take k).filter (λx=>x.f)=[]:=by rw[kke];intro x b;rw[h.take x b];simp
 unfold fnI;rw[a];rfl
def FnD (im:List Nat) (l R:List Dw) (I:List Nat) (k j:Nat):Prop:=k<j/\j<=l.length/\R.length=l.length/\R.take k=fnQ (l.take j)/\R.drop j=l.drop j/\I=fnI im (l.take j)
theorem FnD.get(h:FnD im l R I k j):R[j]? = l[j]?:=by
 have a:(R.drop j)[0]? = R[j]?:=by simp
 have b:(l.drop j)[0]? = l[j]?:=by simp
 rw[h.2.2.2.2.1,b] at a;exact a.symm
theorem FnD.drop1(h:FnD im l R I k j):R.drop (j+1)=l.drop (j+1):=by have:=congrArg (List.drop 1) h.2.2.2.2.1;rwa [kxl,kxl] at this
theorem FnD.first(hx:l[k]? = some x)(h:NoF l k)(h1:x.f=true):FnD im l l (im.set x.a.toNat x.v) k (k+1):=by
 have hk:k<l.length:=(kzb.1 hx).1;refine⟨by omega,by omega,rfl,?_,rfl,?_⟩
 .rw[qB hx,h.q,if_pos h1,kzs]
 rw[qG hx,h.i,if_pos h1]
theorem FnD.del(h:FnD im l R I k j)(hx:l[j]? = some x)(h1:x.f=true):FnD im l R (I.set x.a.toNat x.v) k (j+1):=by
 have hj:j<l.length:=(kzb.1 hx).1;refine⟨by have:=h.1;omega,by omega,h.2.2.1,?_,h.drop1,?_⟩
 .rw[qB hx,if_pos h1,kzs];exact h.2.2.2.1
 rw[qG hx,if_pos h1,<-h.2.2.2.2.2]
theorem FnD.keep(h:FnD im l R I k j)(hx:l[j]? = some x)(h1:x.f=false):FnD im l (R.set k x) I (k+1) (j+1):=by
 have hj:j<l.length:=(kzb.1 hx).1;have b:=h.drop1;obtain⟨g1,g2,c,d,g5,a⟩:=h;refine⟨by omega,by omega,by rw[kq4];exact c,?_,?_,?_⟩
 .rw[qB hx,if_neg (by rw[h1];simp),<-d,kqp (by rw[kq4];omega),List.getElem_set_self,kvr (kqa _)]
 .rw[kvs (by omega)];exact b
 rw[qG hx,if_neg (by rw[h1];simp)];exact a
theorem GF{sz:Nat}{e:TypeId}(h:w.ownsRow H e sz (.slice (some ⟨g,0,none⟩) n c) n xs)(hk:k<=n):w.ownsRow H e sz (.slice (some ⟨g,0,none⟩) k c) k (xs.take (k*sz)):=by
 have a:k*sz<=n*sz:=kxu _ hk;refine⟨by rw[kq3,h.1,kxc a],?_⟩;rcases h.2 with⟨d,-⟩|⟨g',cap,b,d,i,m,h4,j,l,f⟩
 .cases d
 injection d with h8 h9 h10;subst h10;injection h8 with h8;injection h8 with h8;subst h8;exact .inr ⟨g,c,b,rfl,i,m,by omega,j,l,by rw[<-f,kkd,kxc a]⟩
theorem tp{vs:List Value}{o:Nat}(h:o+vs.length<=xs.length):(sW xs o vs).take o=xs.take o:=by rw[lN _ _ _ h,kz9 (by rw[kq3];omega),kkd,Nat.min_self]
theorem zeroDw(w:World):(zeroValue 92).run prog w=.ok (.agg #[.int .i64 0,.int .u64 0,.bool false]) w:=by kernel_rfl
theorem xY(H hw gB g n c:Nat)(DA:Option Addr)(dc:Nat)(lf:Int)(dn:Bool)(w0:World)(im:List Nat)(l:List Dw)(w:World)(d:sF H hw gB g n c DA l.length dc lf dn w0 im l w)(h0:hw<=w0.heap.size)(hH:hw<=H)(S:gB<H)(hn:n<=2048)(hm:l.length<=1000000)(hat:∀x∈l,0<=x.a/\x.a<(n:Int)):
 Calls prog 229 #[.slice DA l.length dc,.func (.func 230) #[] #[.pointer (some ⟨gB,0,none⟩)]] w λe w'=>(∃A' c',e=.returned (.slice A' (fnQ l).length c')/\w'.ownsRow H 92 3 (.slice A' (fnQ l).length c') (fnQ l).length ((fnQ l).flatMap Dw.cells))/\Bx w' gB 79 #[.slice (some ⟨g,0,none⟩) n c,.slice DA l.length dc,.int .i64 lf,.bool dn]/\w'.ownsRow H 53 1 (.slice (some ⟨g,0,none⟩) n c) n ((fnI im l).flatMap ag)/\Below hw w0 w':=by
 have Kr:=hid (Ai H hw gB g n c DA dc lf dn w0 im l w d h0 hH S hn hm hat);have HST:=hid d;have Kj:=hid hat;have HC:=hid (λJ R a v f W h1 h2=>uI H hw gB g n c DA l.length dc lf dn w0 J R a v f W h1 h0 hH S h2 hn);have HH:=hid (And.intro h0 hH);clear d hat h0 hH;go_enter func229,ntmps229;go_wp2_with fail;refine Kr.out.mono ?_;rintro e w1 ⟨⟨rfl,t,o⟩|⟨k,x,C,rfl,t,Kf,o⟩,Y⟩
 .have u:=hid o;have HQ:=hid (show fnQ l=l by have:=t.q;rwa [kzl] at this);have HI:=hid (show fnI im l=im by have:=t.i (im:=im);rwa [kzl] at this);clear t o Y;go_wp2;go_ret;rw[HQ.out,HI.out];exact⟨⟨DA,dc,rfl,u.out.2.2.1⟩,u.out.1,u.out.2.1,u.out.2.2.2.1⟩
 have hk:k<l.length:=(kzb.1 C).1;have HD:=hid (FnD.first (im:=im) C t Kf);obtain⟨p,cL,eL⟩:=fV o.2.2.1 (by omega);injection eL with e1 e2 e3;subst e1;subst e3;have Kb:=gG o.2.2.1;have F:p≠g:=λh=>by
  rcases fO o.2.2.1 o.2.1 (by decide) with h6|h6
  .cases h6
  exact h6 (by rw[h];rfl)
 have hneB:p≠gB:=by omega
 have u:=hid o;have hwk:IntKind.i64.wrap ((k:Int)+1)=(k:Int)+1:=kqs _ (by omega);have hkm:((k:Int) == -1)=false:=by rw[kqi];omega
 clear t Kf C o Y;go_wp2_with fail;go_loopw [5,6] (λiv jv wr=>∃(i j:Nat) (R:List Dw) (J:List Nat),iv=.int .i64 i/\jv=.int .i64 j/\Hid (FnD im l R J i j)/\Hid (sF H hw gB g n c (some ⟨p,0,none⟩) l.length dc lf dn w0 J R wr)) (λ_ jv _=>l.length-(RowKit.intOf jv).toNat)
 case atStart=>exact⟨k,k+1,l,_,rfl,by go_num,HD,u⟩
 obtain⟨i,j,R,J,rfl,rfl,I,D⟩:=hrel;have d:=I.out;have hRl:=d.2.2.1;have hij:=d.1;have hjl2:=d.2.1;by_cases hlt:j<l.length
 .have Kd:j<R.length:=by omega
  obtain⟨b,off,eA,hbw,q0,q1,q2⟩:=RdQ.at_ (show RdQ wr wr.heap.size _ R from Rd.of_own D.out.2.2.1) Kd;cases eA;simp only[kxd] at q0 q1 q2;have z:l[j]? = some R[j]:=by rw[<-d.get,kql Kd]
  obtain⟨x,C⟩:=xq (R[j]);rw[C] at q0 q1 q2 z;have ht:=Kj.out _ (List.mem_of_getElem? z);have HK:=hid (λh=>I.out.keep z h);have Ka:=hid (λh=>I.out.del z h);obtain⟨xa,r,U⟩:=x;dsimp only at q0 q1 q2 ht Ka;obtain⟨m,rfl⟩:=kq2 ht.1;have Km:m<n:=by have:=ht.2;omega
  have hlm:(j:Int)<(l.length:Int):=by omega
  have hj0:(0:Int)<=(j:Int):=by omega
  have Kl:(0:Int)<=(i:Int):=by omega
  have Z:(i:Int)<(l.length:Int):=by omega
  have BN:=hid (Bx.new wr 92 #[.int .i64 (m:Int),.int .u64 (r:Int),.bool U]);have SN:=hid (D.out.alloc HH.out.1 (.cells #[.int .i64 (m:Int),.int .u64 (r:Int),.bool U] 92));have Kp:g<wr.heap.size:=(D.out.2.1.lt g rfl).2;clear C z ht d;go_upto_region 8 with (fail);obtain⟨wn,N⟩:∃wn,wr.alloc (.cells #[.int .i64 (m:Int),.int .u64 (r:Int),.bool U] 92)=wn:=⟨_,rfl⟩;rw[N] at BN SN |-;have T:wn.heap.size=wr.heap.size+1:=by rw[<-N];simp
  obtain⟨bn,Kk⟩:=xq wr.heap.size;rw[Kk] at BN T Kp |-;clear N q0 q1 q2;have HQ:=hid (HC.out J R m r U wn SN.out Km);obtain⟨p0,p1,p2,-,-,-,hgn⟩:=BN.out.c3;go_wp2_with fail;refine HQ.out.mono ?_;rintro e A ⟨rfl,Kh,V⟩;have Ke:=hid Kh;have bn2:Bx A bn _ _:=(V.block bn (by omega) (by first|exact λe=>by injection e with e;omega|exact λe=>by injection e with e;omega)).trans BN.out;clear Kh V p0 p1 p2;obtain⟨p0,p1,p2,-,-,-,hgn2⟩:=bn2.c3;cases U
  .have HY:=hid (HK.out rfl);have s:sF H hw gB g n c (some ⟨p,0,none⟩) l.length dc lf dn w0 J R A:=Ke.out;have y:A.there p (i*3) (#[.int .i64 (m:Int),.int .u64 (r:Int),.bool false]:Array Value).size:=jk s.2.2.1 (i*3) 3 (by omega);have X:(prog.info? 92).map (·.size)=some (#[.int .i64 (m:Int),.int .u64 (r:Int),.bool false]:Array Value).size:=by kernel_rfl
   have Kc:(#[.int .i64 (m:Int),.int .u64 (r:Int),.bool false]:Array Value).all (·.oneCell')=true:=by simp[Value.oneCell']
   have C:=dr (Dw.cells ⟨(m:Int),r,false⟩) (i*3) A _ s.2.2.1;rw[zA R i _ (by omega)] at C;have E:iD A (A.setCells p (i*3) (Dw.cells ⟨(m:Int),r,false⟩)) p:=⟨cY _ _ _,λg' G=>dD G _ _ _,λB S=>a9 S _ (kqk _ _)⟩;have YS:Hid (sF H hw gB g n c (some ⟨p,0,none⟩) l.length dc lf dn w0 J (R.set i ⟨(m:Int),r,false⟩) (A.setCells p (i*3) (Dw.cells ⟨(m:Int),r,false⟩))):=hid ⟨E.bx s.1 (by omega),bC s.2.1 E.grown (.inr (λe=>F (by injection e with e;exact e.symm))),C,E.below s.2.2.2.1 (kz3 HH.out.2 Kb),s.2.2.2.2⟩;obtain⟨cs,M⟩:∃cs:Array Value,#[.int .i64 (m:Int),.int .u64 (r:Int),.bool false]=cs:=⟨_,rfl⟩;obtain⟨w3,Q⟩:∃w3,A.setCells p (i*3) (Dw.cells ⟨(m:Int),r,false⟩)=w3:=⟨_,rfl⟩;have Kq:A.setCells p (i*3) cs.toList=w3:=by rw[<-M];exact Q
   rw[Q] at YS;rw[M] at y X Kc;clear Q E C s;go_wp2_with (refine kjt rfl _ _ _ rfl p (i*3) cs (by rfl) (by rw[<-M];rfl) y X Kc ?_;rw[Kq]);go_roundw
   case rel=>exact⟨i+1,j+1,R.set i ⟨(m:Int),r,false⟩,J,by go_num,by go_num,HY,YS⟩
   case measure=>simp[RowKit.intOf];omega
  have HY:=hid (Ka.out rfl);have Kn:Hid (sF H hw gB g n c (some ⟨p,0,none⟩) l.length dc lf dn w0 (J.set (Int.toNat (m:Int)) r) R A):=hid (by rw[kqj];exact Ke.out);go_wp2;go_roundw
  case rel=>exact⟨i,j+1,R,_,rfl,by go_num,HY,Kn⟩
  case measure=>simp[RowKit.intOf];omega
 have Kg:j=l.length:=by omega
 have hicl0:l.length<=dc:=cH D.out.2.2.1;have hicl:(i:Int)<=(dc:Int):=by omega
 have hill:(i:Int)<=(l.length:Int):=by omega
 have Kl:(0:Int)<=(i:Int):=by omega
 have hne:i≠dc:=by omega
 have hnec:¬ ((i:Int)=(dc:Int)):=by omega
 have Ki:=hid (show fnQ l=R.take i by rw[d.2.2.2.1,Kg,kzl]);have Ko:=hid (show fnI im l=J by rw[d.2.2.2.2.2,Kg,kzl]);have Eq:=D.out.2.2.1.1;obtain⟨L,hL⟩:=xq ((Builtin.zeroCells (Value.cells (.agg #[.int .i64 0,.int .u64 0,.bool false])) (l.length-i)).toList);have K:L.length=(l.length-i)*3:=by rw[<-hL,lu];rfl
 have y:=jk D.out.2.2.1 (i*3) L.length (by rw[K];omega);have hcl:=jY (P:=prog) wr 77 92 0 _ underlying77 zeroDw L p (i*3) (l.length-i) (dc-i) hL (by omega)
  (λv hv=>by
   rw[<-hL] at hv;have:=kX hv (by decide);simp[Value.cells] at this;rcases this with rfl|rfl|rfl<;>rfl)
  (λq O=>(y q O).1) (λq O=>(y q O).2)
 have E:iD wr (wr.setCells p (i*3) L) p:=⟨cY _ _ _,λg' G=>dD G _ _ _,λB S=>a9 S _ (kqk _ _)⟩;have Y0:=hid (E.bx D.out.1 (show gB≠p by omega));have YO:=hid (bC D.out.2.1 E.grown (.inr (λe=>F (by injection e with e;exact e.symm))));have YB:=hid (E.below D.out.2.2.2.1 (kz3 HH.out.2 Kb));have O:=GF (dr L (i*3) wr _ D.out.2.2.1) (k:=i) (by omega);rw[tp (by rw[Eq,K];omega),<-iA Dw.cells 3 Dw.len] at O;have YQ:=hid O;have Z:(R.take i).length=i:=by rw[kq3];omega
 clear hL K y d E O Eq;go_wp2;go_ret;rw[Ki.out,Ko.out,Z];exact⟨⟨_,_,rfl,YQ.out⟩,Y0.out,YO.out,YB.out⟩
theorem Ab(A DA:Option Addr)(im:List Nat)(dw:List Dw)(lf:Int)(dn:Bool)(n c m dc:Nat)(w:World)(hn:im.length=n)(hm:dw.length=m)(hok:eY ⟨im,dw,lf,dn⟩=true)(hm2:m<=1000000)(hi:RdW w w.heap.size A im)(hr:RdQ w w.heap.size DA dw):
 Calls prog 183 #[.agg #[.slice A n c,.slice DA m dc,.int .i64 lf,.bool dn]] w λe w'=>(∃u,e=.returned (.tuple #[u,.int .i64 0])/\lx w' w.heap.size (dvN ⟨im,dw,lf,dn⟩) u)/\Below w.heap.size w w':=by
 have N:=(bM _).1 hok;have hs:=(aa _).1 N.1;dsimp only at hs;have X : -1<=lf/\lf<=1000000:=⟨N.2.1,N.2.2.1⟩;have I:=N.2.2.2.2;dsimp only at I;have T:=hid (fS I);rw[hn] at T;have O:=hid (λW (h:RdQ W W.heap.size DA dw)=>kx A DA im dw lf dn n c m dc W hn hm (by omega) (by omega) h);rw[show fh ⟨im,dw,lf,dn⟩=0 by unfold fh;rw[if_pos hok]] at O;have r:=hid (λW (h:RdW W W.heap.size A im) (h2:RdQ W W.heap.size DA dw)=>oo A DA im dw lf dn n c m dc W hn hm (by omega) (by omega) (by omega) X h h2);unfold lx at r;rw[(pq _).1,(pq _).2] at r;dsimp only at r;rw[hn,hm] at r;have HR:=hid hi;have HQ:=hid hr;obtain⟨W0,Kk,D,x1,Kd,Kh⟩:=nq w A DA lf dn n c m dc;have X0:=hid D;have X1:=hid x1;have Ke:=hid Kd;have l:=hid hn;have G:=hid hm;obtain⟨q0,q1,q2,q3,-,-,-,-,hg⟩:=D.c4;have Kf:w.heap.size<=W0.heap.size:=by omega
 have Kg:w.heap.size+1<W0.heap.size:=by omega
 have V:w.heap.size+1≠w.heap.size:=by omega
 have Kj:n<=2048:=by omega
 have Kl:0<n:=by omega
 clear hi hr D x1 Kd Kh hn hm N hs I hok;go_enter func183,ntmps183;go_wp2_with fail;clear Kk;refine (O.out W0 (HQ.out.up Ke.out Kf)).mono ?_;rintro e w1 ⟨rfl,q⟩;have D:=X0.out.up q hg;have a:=hid (Ke.out.trans (q.mono Kf));have hz1:=q.size;obtain⟨p0,p1,p2,p3,-,-,-,-,f⟩:=D.c4;have Y0:=hid D;have Y1:=hid (X1.out.up q Kg);have d:w.heap.size+1<w1.heap.size:=by omega
 clear D q q0 q1 q2 q3;go_wp2_with fail;refine (r.out w1 (HR.out.up a.out a.out.size) (HQ.out.up a.out a.out.size)).mono ?_;rintro e w2 ⟨⟨_,rfl,A1,M,H,B,rfl,Ka,R,Eq⟩,o⟩;have z:=hid R;have C:=hid Eq;have Z0:=hid (Y0.out.up o f);have Z1:=hid (Y1.out.up o d);have L:=hid (a.out.trans (o.mono a.out.size));have Km:=o.size;clear o R Eq p0 p1 p2 p3;by_cases k:lf=0
 .subst k;have HV:Hid (dvN ⟨im,dw,0,dn⟩=⟨im,dw,0,true⟩):=hid (by unfold dvN dvD;rw[if_pos rfl]);rw[qx rfl,show decide ((0:Int)≠0)=false from rfl];unfold dvD;dsimp only;go_wp2_with (first
   | ((with_reducible refine ar 79 (.tmp 1) _ ?_);refine stD Z0.out ?_;intro Q y b)
   | ((with_reducible refine aN 79 (.tmp 1) ?_);refine ldD y.out ?_)
   | ((with_reducible refine ar 79 (.tmp 2) _ ?_);refine stD (b.out.bx Z1.out V) ?_;intro w9 F i))
  refine kqo (v:=.tuple #[.agg #[.slice A1 n M,.slice H m B,.int .i64 0,.bool true],.int .i64 0]) (bg results183 _ F.out rfl rfl rfl) rfl ⟨⟨_,rfl,by
   rw[HV.out];exact⟨A1,M,H,B,by rw[l.out,G.out],by rw[l.out];exact Ka,by rw[l.out];exact ao (ap (ap z.out b.out f) i.out d) a.out.size,by rw[G.out];exact ao (ap (ap C.out b.out f) i.out d) a.out.size⟩⟩,i.out.below (b.out.below L.out (kqa _)) (by omega)⟩
 have ed:decide (lf≠0)=true:=by rw[kqn];exact k
 have HV:Hid (dvN ⟨im,dw,lf,dn⟩=⟨fnI im dw,fnQ dw,dec lf,dn⟩):=hid (by unfold dvN;rw[if_neg k]);have P:dvB ⟨im,dw,lf,dn⟩=⟨im,dw,dec lf,dn⟩:=by unfold dvB;rw[if_neg k]
 rw[ed,P];dsimp only;obtain⟨l2,Kb⟩:=xq (dec lf);rw[Kb] at HV |-;subst G;clear Kb P ed k X;go_wp2_with (first
  | (((with_reducible refine ar 79 (.tmp 1) _ ?_);refine stD Z0.out ?_;intro Q y b);obtain⟨s0,s1,s2,s3,S,Z,Y,sf3,slt⟩:=y.out.c4)
  | ((with_reducible refine aN 79 (.tmp 1) ?_);refine ldD y.out ?_))
 have hw3:w.heap.size<Q.heap.size:=y.out.lt;have Kc:w1.heap.size<=Q.heap.size:=by have:=b.out.1;omega
 have U1:=hid (b.out.bx Z1.out V);have U:=hid (ap z.out b.out f);have Ko:=hid (ap C.out b.out f);have Kn:=hid (b.out.below L.out (kqa _));obtain⟨g,c9,Kp⟩:=fV U.out Kl;injection Kp with e1 e2 e3;subst e1;subst e3;have Ki:(fnI im dw).length=n:=by unfold fnI;rw[mF,l.out]
 clear z C L Z0 Z1 b Km s0 s1 s2 s3 S Z Y sf3 slt;refine (xY w1.heap.size w1.heap.size w.heap.size g n M H B l2 dn Q im dw Q ⟨y.out,U.out,Ko.out,kqk _ _,l.out⟩ Kc (kqa _) f Kj hm2 (λx hx=>by have:=T.out x hx;omega)).mono ?_;rintro e w4 ⟨⟨t,s,rfl,K⟩,J,j,E⟩;have y1:=U1.out.up E d;have yb:=Kn.out.trans (E.mono a.out.size);have Y0:=hid (show Bx (w4.setCell ⟨w.heap.size,1,none⟩ (.slice t (fnQ dw).length s)) w.heap.size 79 #[.slice (some ⟨g,0,none⟩) n M,.slice t (fnQ dw).length s,.int .i64 l2,.bool dn] from J.set_ 1 _);have Y1:=hid (y1.far (p:=⟨w.heap.size,1,none⟩) (show w.heap.size+1≠w.heap.size by omega) (.slice t (fnQ dw).length s));have YO:=hid (av j (p:=⟨w.heap.size,1,none⟩) (bH j f).symm (.slice t (fnQ dw).length s));have YQ:=hid (av K (p:=⟨w.heap.size,1,none⟩) (bH K f).symm (.slice t (fnQ dw).length s));have YB:=hid (yb.setCell (p:=⟨w.heap.size,1,none⟩) (kqa _) (.slice t (fnQ dw).length s));obtain⟨s0,s1,s2,s3,S,Z,Y,sf3,slt⟩:=J.c4;clear J j K E y1 yb y;go_wp2_with (first
  | ((with_reducible refine aN 79 (.tmp 1) ?_);refine ldD Y0.out ?_)
  | ((with_reducible refine ar 79 (.tmp 2) _ ?_);refine stD Y1.out ?_;intro w9 F i))
 refine kqo (v:=.tuple #[.agg #[.slice (some ⟨g,0,none⟩) n M,.slice t (fnQ dw).length s,.int .i64 l2,.bool dn],.int .i64 0]) (bg results183 _ F.out rfl rfl rfl) rfl ⟨⟨_,rfl,by
  rw[HV.out];unfold lx;dsimp only;rw[Ki];exact⟨some ⟨g,0,none⟩,M,t,s,rfl,Ka,ao (ap YO.out i.out d) a.out.size,ao (ap YQ.out i.out d) a.out.size⟩⟩,i.out.below YB.out (by omega)⟩
theorem qe(w:World)(H:Nat)(e:TypeId)(sz:Nat):w.ownsRow H e sz (.slice none 0 0) 0 []:=⟨by simp,.inl ⟨rfl,rfl⟩⟩
theorem Iz(A:Option Addr)(im:List Nat)(n c:Nat)(w:World)(hn:im.length=n)(hs:aj (n:Int)=true)(hr:RdW w w.heap.size A im):
 Calls prog 42 #[.slice A n c] w λe w'=>(∃u,e=.returned (.tuple #[u,.int .i64 0])/\lx w' w.heap.size ⟨im,[],-1,false⟩ u)/\Below w.heap.size w w':=by
 have z:=(aa _).1 hs;have g:=hid (λW=>aG A n c W (by omega));rw[aZ hs] at g;have f:=hid (λW (h:RdW W W.heap.size A im)=>nQ A im c n W.heap.size W hn (by omega) (by omega) h (kqa _));unfold xB at f;rw[hn] at f;have C:=hid hr;have o:=hid hn;have x:=hid (Bx.new w 79 #[.slice none 0 0,.slice none 0 0,.int .i64 0,.bool false]);have b:=hid ((kqk w.heap.size w).alloc (kqa _) (.cells #[.slice none 0 0,.slice none 0 0,.int .i64 0,.bool false] 79));have q:(w.alloc (.cells #[.slice none 0 0,.slice none 0 0,.int .i64 0,.bool false] 79)).heap.size=w.heap.size+1:=kqm _ _;obtain⟨j,l⟩:=xq (w.alloc (.cells #[.slice none 0 0,.slice none 0 0,.int .i64 0,.bool false] 79));rw[l] at x b q;have k:w.heap.size<j.heap.size:=by omega
 clear hr hn hs z;go_enter func42,ntmps42;go_wp2_with fail;refine (g.out j).mono ?_;rintro e D ⟨rfl,rfl⟩;clear l;go_wp2_with fail;refine (f.out j (C.out.up b.out b.out.size)).mono ?_;rintro e D ⟨y,s,rfl,a,d⟩;have p:=hid a;have B:=hid (x.out.up d k);have m:=hid (b.out.trans (d.mono b.out.size));have t:n<=s:=cH a;clear a d;go_wp2_with (first
  | ((with_reducible refine ar 79 (.tmp 2) _ ?_);refine stD B.out ?_;intro w9 r i))
 refine kqo (v:=.tuple #[.agg #[.slice (some ⟨y,0,none⟩) n s,.slice none 0 0,.int .i64 (-1),.bool false],.int .i64 0]) (bg results42 _ r.out rfl rfl rfl) rfl ⟨⟨_,rfl,by
  unfold lx;dsimp only;rw[o.out];exact⟨some ⟨y,0,none⟩,s,none,0,rfl,t,ao (ap p.out i.out k) b.out.size,qe _ _ _ _⟩⟩,i.out.below m.out (kqa _)⟩
end Go.Proofs.YtpcajamacpbjcaaGreat
