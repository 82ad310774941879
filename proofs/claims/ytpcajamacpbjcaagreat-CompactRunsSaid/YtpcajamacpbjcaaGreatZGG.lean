import Derived.Test.YtpcajamacpbjcaaGreatZGB
import Derived.Test.YtpcajamacpbjcaaGreatZGD
set_option maxHeartbeats 16000000
set_option maxRecDepth 100000
set_option linter.all false
namespace Go.Proofs.YtpcajamacpbjcaaGreat
open Go.RowKit Go.Lib
variable {dn:Bool}{d:Dv}{x:Dw}{lf:Int}{R l:List Dw}{ad:List Int}{I im:List Nat}{xs:List Value}{H a b c dc g gB hw j k m n sz:Nat}{DA:Option Addr}{r:Option Nat}{P:Program}{e:TypeId}{w w' w0 wr:World}
open Go.Proofs.Tryz
def rJ (H hw gB g n c:Nat) (DA:Option Addr) (m dc:Nat) (lf:Int) (dn:Bool) (w0:World) (im:List Nat) (R:List Dw) (wr:World):Prop:=
 Bx wr gB 79 #[.slice (some ⟨g,0,none⟩) n c,.slice DA m dc,.int .i64 lf,.bool dn]/\wr.ownsRow H 53 1 (.slice (some ⟨g,0,none⟩) n c) n (im.flatMap ap)/\wr.ownsRow H 92 3 (.slice DA m dc) m (R.flatMap Dw.cells)/\Below hw w0 wr/\im.length=n
theorem rJ.alloc(h:rJ H hw gB g n c DA m dc lf dn w0 im R wr)(a:hw<=w0.heap.size)(o:Obj):rJ H hw gB g n c DA m dc lf dn w0 im R (wr.alloc o):=
 ⟨h.1.alloc o,h.2.1.alloc o,h.2.2.1.alloc o,h.2.2.2.1.alloc (kzu a h.2.2.2.1.size) o,h.2.2.2.2⟩
theorem rJ.put(h:rJ H hw gB g n c DA m dc lf dn w0 im R wr)(hH:hw<=H)(hB:gB<H)(v:Nat):rJ H hw gB g n c DA m dc lf dn w0 (im.set a v) R (wr.setCell ⟨g,a,none⟩ (.int .u64 (v:Int))):=by
 obtain⟨i,b,f,j,k⟩:=h;have hg:H<=g:=gH b;refine⟨i.far (p:=⟨g,a,none⟩) (show gB≠g by omega) _,?_,ar f (p:=⟨g,a,none⟩) (λe=>?_) _,j.setCell (p:=⟨g,a,none⟩) (by dsimp only;omega) _,by rw[kq5,k]⟩
 .have d:=eN ap 1 (λ_=>rfl) im a 0 (by omega) v (.int .u64 (v:Int)) (λy _=>rfl);rw[kjd,kxb] at d;rw[d];exact (b.stored a _).1
 rcases gR f b (by decide) with d|d
 .rw[d] at e;cases e
 exact d (by rw[e];rfl)
theorem uv(h:w.grownBy w' r)(o:Obj):w.grownBy (w'.alloc o) r:=by refine⟨h.os,h.tape,h.output,by rw[kqm];have:=h.size;omega,λk b a=>?_⟩;rw[Below.heap_alloc w' o k (by have:=h.size;omega)];exact h.block k b a
theorem vY(H h d g n c:Nat)(k:Option Addr)(m l:Nat)(s:Int)(o:Bool)(j:World)(im:List Nat)(R:List Dw)(a v:Nat)(f:Bool)(w:World)(b:rJ H h d g n c k m l s o j im R w)(q:h<=j.heap.size)(C:h<=H)(B:d<H)(ha:a<n)(_hn:n<=2048):
 Calls prog 230 #[.agg #[.int .i64 (a:Int),.int .u64 (v:Int),.bool f],.pointer (some ⟨d,0,none⟩)] w λe i=>e=.returned (.bool f)/\rJ H h d g n c k m l s o j (if f=true then im.set a v else im) R i/\w.grownBy i (some g):=by
 obtain⟨A,z⟩:=yq0 (b.alloc q (.cells #[.int .i64 (a:Int),.int .u64 (v:Int),.bool f] 92)) ((b.put C B (a:=a) v).alloc q (.cells #[.int .i64 (a:Int),.int .u64 (v:Int),.bool f] 92));have D:=(b.1.alloc (.cells #[.int .i64 (a:Int),.int .u64 (v:Int),.bool f] 92)).c4;obtain⟨s0,-,-,-,-,-,-,-,-⟩:=D;have e:=b.2.1.alloc (.cells #[.int .i64 (a:Int),.int .u64 (v:Int),.bool f] 92);have E:=b.2.2.2.2;have i:(im.flatMap ap).length=im.length:=oo im;have t:=e.cellAt a (by omega);rw[kqg (by omega)] at t;obtain⟨y,r⟩:=xq ((im.flatMap ap)[a]'(by omega));rw[r] at t;have qf:=e.frozenAt a;obtain⟨u,x⟩:=yq0 (show w.grownBy (w.alloc (.cells #[.int .i64 (a:Int),.int .u64 (v:Int),.bool f] 92)) (some g) from eB ((kqe w.heap.size w).alloc (kqa _) _)) (show w.grownBy ((w.setCell ⟨g,a,none⟩ (.int .u64 (v:Int))).alloc (.cells #[.int .i64 (a:Int),.int .u64 (v:Int),.bool f] 92)) (some g) from uv (eZ (vs:=[.int .u64 (v:Int)]) (eB (kqe w.heap.size w))) _);have hai:(a:Int)<(n:Int):=(by omega);have ha0:(0:Int)<=(a:Int):=(by omega);have hgw:g<w.heap.size:=(b.2.1.lt g rfl).2;obtain⟨-,-,r2,-,-,-,-⟩:=((Bx.new w 92 #[.int .i64 (a:Int),.int .u64 (v:Int),.bool f]).far (p:=⟨g,a,none⟩) (show w.heap.size≠g by omega) (.int .u64 (v:Int))).c3;clear b e E i r;cases f
 .go_enter func230,ntmps230;go_wp2;go_ret;exact⟨rfl,A.out,u.out⟩
 go_enter func230,ntmps230;go_wp2;go_ret;exact⟨rfl,z.out,x.out⟩
open Go.RowKit
def NoF (l:List Dw) (k:Nat):Prop:=∀j (h:j<l.length),j<k->l[j].f=false
theorem NoF.succ(h:NoF l k)(hk:k<l.length)(b:l[k].f=false):NoF l (k+1):=λj c hjk=>by
 rcases kq8 j k with a|a
 .exact h j c a
 .obtain rfl:j=k:=(by omega);exact b
theorem nN{a b c:World}(h:a.grownBy b r)(k:b.grownBy c r):a.grownBy c r:=
 ⟨k.os.trans h.os,k.tape.trans h.tape,k.output.trans h.output,kzu h.size k.size,λi e d=>(k.block i (kxm e h.size) d).trans (h.block i e d)⟩
theorem zA(H p o g n c:Nat)(d:Option Addr)(q:Nat)(y:Int)(s:Bool)(r:World)(im:List Nat)(l:List Dw)(w:World)(h:rJ H p o g n c d l.length q y s r im l w)(i:p<=r.heap.size)(j:p<=H)(K:o<H)(L:n<=2048)(hm:l.length<=1000000)(b:∀x∈l,0<=x.a/\x.a<(n:Int)):
 Calls prog 271 #[.slice d l.length q,.func (.func 230) #[] #[.pointer (some ⟨o,0,none⟩)]] w λe a=>((e=.returned (.int .i64 (-1))/\NoF l l.length/\rJ H p o g n c d l.length q y s r im l a)\/∃(k:Nat) (x:Dw),l[k]? = some x/\e=.returned (.int .i64 (k:Int))/\NoF l k/\x.f=true/\rJ H p o g n c d l.length q y s r (im.set x.a.toNat x.v) l a)/\w.grownBy a (some g):=by
 obtain⟨A,z,I⟩:=yq1 h b (λa v f W m t=>vY H p o g n c d l.length q y s r im l a v f W m i j K t L);clear h b i j;go_enter func271,ntmps271;go_wp2_with fail;go_loopw [8] (λi wr=>∃k:Nat,k<=l.length/\i=.int .i64 k/\Hid (NoF l k)/\Hid (rJ H p o g n c d l.length q y s r im l wr)/\Hid (w.grownBy wr (some g))) (λi _=>l.length-(RowKit.intOf i).toNat)
 case atStart=>exact⟨0,kqv _,rfl,y5 (λj _ h=>absurd h (by omega)),A,y5 (eB (kqe _ _))⟩
 obtain⟨k,hk,rfl,f,v,B⟩:=hrel;by_cases a:k<l.length
 .obtain ⟨b,off,rfl,hbw,D,E,F⟩:=RdQ.at_ (show RdQ wr wr.heap.size d l from Rd.of_own v.out.2.2.1) a;obtain⟨i,C⟩:=yq0 (λh=>f.out.succ a h) (kqg a);obtain⟨x,t⟩:=xq (l[k]);have j:=z.out _ (kqp a);rw[t] at D E F i C j;obtain⟨xa,M,G⟩:=x;dsimp only at D E F j;obtain⟨m,rfl⟩:=kqz j.1;have h:m<n:=by have:=j.2;omega
  have J:=y5 (I.out m M G wr v.out h);have hlm:(k:Int)<(l.length:Int):=(by omega);have hk0:(0:Int)<=(k:Int):=(by omega);clear t j h;go_wp2_with fail;refine J.out.mono ?_;rintro e w2 ⟨rfl,u,t⟩;obtain⟨h,j⟩:=yq0 (nN B.out t) u;clear u t;cases G
  .have t:=y5 (i.out rfl);go_wp2;go_roundw
   case rel=>exact⟨k+1,by omega,by go_num,t,j,h⟩
   case measure=>simp[RowKit.intOf];omega
  go_wp2;go_ret;exact⟨.inr ⟨k,_,C.out,rfl,f.out,rfl,by simpa using j.out⟩,h.out⟩
 obtain rfl:k=l.length:=(by omega);go_wp2;go_ret;exact⟨.inl ⟨rfl,f.out,v.out⟩,B.out⟩
theorem zZ(h:l[k]? = some x):l.take (k+1)=l.take k++[x]:=by rw[List.take_add_one,h];rfl
theorem qi(h:l[k]? = some x):fnQ (l.take (k+1))=fnQ (l.take k)++if x.f=true then [] else [x]:=by unfold fnQ;rw[zZ h,kxa];congr 1;cases a:x.f<;>simp[a]
theorem qZ(h:l[k]? = some x):fnI im (l.take (k+1))=if x.f=true then (fnI im (l.take k)).set x.a.toNat x.v else fnI im (l.take k):=by
 unfold fnI iU;rw[zZ h,kxa];cases b:x.f
 .simp[b]
 simp[b]
theorem NoF.take(h:NoF l k):∀x∈l.take k,x.f=false:=λx b=>by obtain⟨j,a,rfl⟩:=kqy b;rw[kq6] at a;rw[kjx];exact h j (by omega) (by omega)
theorem NoF.q(h:NoF l k):fnQ (l.take k)=l.take k:=by unfold fnQ;rw[kvr];intro x a;rw[h.take x a];rfl
theorem NoF.i(h:NoF l k):fnI im (l.take k)=im:=by
 have a:(l.take k).filter (λx=>x.f)=[]:=by rw[kj1];intro x b;rw[h.take x b];simp
 unfold fnI;rw[a];rfl
def FnD (im:List Nat) (l R:List Dw) (I:List Nat) (k j:Nat):Prop:=k<j/\j<=l.length/\R.length=l.length/\R.take k=fnQ (l.take j)/\R.drop j=l.drop j/\I=fnI im (l.take j)
theorem FnD.get(h:FnD im l R I k j):R[j]? = l[j]?:=by
 have a:(R.drop j)[0]? = R[j]?:=(by simp);have b:(l.drop j)[0]? = l[j]?:=(by simp);rw[h.2.2.2.2.1,b] at a;exact a.symm
theorem FnD.drop1(h:FnD im l R I k j):R.drop (j+1)=l.drop (j+1):=by have:=congrArg (List.drop 1) h.2.2.2.2.1;rwa [kxr,kxr] at this
theorem FnD.first(b:l[k]? = some x)(h:NoF l k)(c:x.f=true):FnD im l l (im.set x.a.toNat x.v) k (k+1):=by
 have hk:k<l.length:=(kzd.1 b).1;refine⟨by omega,by omega,rfl,?_,rfl,?_⟩
 .rw[qi b,h.q,if_pos c,kzf]
 rw[qZ b,h.i,if_pos c]
theorem FnD.del(h:FnD im l R I k j)(b:l[j]? = some x)(c:x.f=true):FnD im l R (I.set x.a.toNat x.v) k (j+1):=by
 have hj:j<l.length:=(kzd.1 b).1;refine⟨by have:=h.1;omega,by omega,h.2.2.1,?_,h.drop1,?_⟩
 .rw[qi b,if_pos c,kzf];exact h.2.2.2.1
 rw[qZ b,if_pos c,<-h.2.2.2.2.2]
theorem FnD.keep(h:FnD im l R I k j)(a:l[j]? = some x)(b:x.f=false):FnD im l (R.set k x) I (k+1) (j+1):=by
 have hj:j<l.length:=(kzd.1 a).1;have e:=h.drop1;obtain⟨g1,g2,c,d,g5,g⟩:=h;refine⟨by omega,by omega,by rw[kq5];exact c,?_,?_,?_⟩
 .rw[qi a,if_neg (by rw[b];simp),<-d,kqi (by rw[kq5];omega),List.getElem_set_self,kvs (kqa _)]
 .rw[kvt (by omega)];exact e
 rw[qZ a,if_neg (by rw[b];simp)];exact g
theorem GI(h:w.ownsRow H e sz (.slice (some ⟨g,0,none⟩) n c) n xs)(o:k<=n):w.ownsRow H e sz (.slice (some ⟨g,0,none⟩) k c) k (xs.take (k*sz)):=by
 have a:k*sz<=n*sz:=kx2 _ o;refine⟨by rw[kq6,h.1,kxo a],?_⟩;rcases h.2 with⟨d,-⟩|⟨g',cap,b,d,f,i,h4,j,l,m⟩
 .cases d
 injection d with h8 h9 h10;subst h10;injection h8 with h8;injection h8 with h8;subst h8;exact .inr ⟨g,c,b,rfl,f,i,by omega,j,l,by rw[<-m,kkl,kxo a]⟩
theorem tQ{vs:List Value}{o:Nat}(h:o+vs.length<=xs.length):(s7 xs o vs).take o=xs.take o:=by rw[lX _ _ _ h,kxp (by rw[kq6];omega),kkl,Nat.min_self]
theorem zeroDw(w:World):(zeroValue 92).run prog w=.ok (.agg #[.int .i64 0,.int .u64 0,.bool false]) w:=by kernel_rfl
theorem xz(H t r g n c:Nat)(K:Option Addr)(o:Nat)(D:Int)(A:Bool)(y:World)(im:List Nat)(l:List Dw)(w:World)(d:rJ H t r g n c K l.length o D A y im l w)(h:t<=y.heap.size)(i:t<=H)(M:r<H)(hn:n<=2048)(hm:l.length<=1000000)(b:∀x∈l,0<=x.a/\x.a<(n:Int)):
 Calls prog 229 #[.slice K l.length o,.func (.func 230) #[] #[.pointer (some ⟨r,0,none⟩)]] w λe a=>(∃A' c',e=.returned (.slice A' (fnQ l).length c')/\a.ownsRow H 92 3 (.slice A' (fnQ l).length c') (fnQ l).length ((fnQ l).flatMap Dw.cells))/\Bx a r 79 #[.slice (some ⟨g,0,none⟩) n c,.slice K l.length o,.int .i64 D,.bool A]/\a.ownsRow H 53 1 (.slice (some ⟨g,0,none⟩) n c) n ((fnI im l).flatMap ap)/\Below t y a:=by
 obtain⟨Ka,HST,Eq,HC,HH⟩:=yq3 (zA H t r g n c K o D A y im l w d h i M hn hm b) d b (λJ R a v f W j k=>vY H t r g n c K l.length o D A y J R a v f W j h i M k hn) (And.intro h i);clear d b h i;go_enter func229,ntmps229;go_wp2_with fail;refine Ka.out.mono ?_;rintro e w1 ⟨⟨rfl,i,a⟩|⟨k,x,u,rfl,i,m,a⟩,j⟩
 .obtain⟨b,HQ,f⟩:=yq1 a (show fnQ l=l by have:=i.q;rwa [kzb] at this) (show fnI im l=im by have:=i.i (im:=im);rwa [kzb] at this);clear i a j;go_wp2;go_ret;rw[HQ.out,f.out];exact⟨⟨K,o,rfl,b.out.2.2.1⟩,b.out.1,b.out.2.1,b.out.2.2.2.1⟩
 have hk:k<l.length:=(kzd.1 u).1;have HD:=y5 (FnD.first (im:=im) u i m);obtain⟨f,cL,eL⟩:=fa a.2.2.1 (by omega);injection eL with e1 e2 e3;subst e1;subst e3;have Q:=gH a.2.2.1;have C:f≠g:=λh=>by
  rcases gR a.2.2.1 a.2.1 (by decide) with p|p
  .cases p
  exact p (by rw[h];rfl)
 have hneB:f≠r:=(by omega);have b:=y5 a;have hwk:IntKind.i64.wrap ((k:Int)+1)=(k:Int)+1:=kqo _ (by omega);have hkm:((k:Int) == -1)=false:=(by rw[kqc];omega);clear i m u a j;go_wp2_with fail;go_loopw [5,6] (λm a wr=>∃(i j:Nat) (R:List Dw) (J:List Nat),m=.int .i64 i/\a=.int .i64 j/\Hid (FnD im l R J i j)/\Hid (rJ H t r g n c (some ⟨f,0,none⟩) l.length o D A y J R wr)) (λ_ a _=>l.length-(RowKit.intOf a).toNat)
 case atStart=>exact⟨k,k+1,l,_,rfl,by go_num,HD,b⟩
 obtain⟨i,j,R,J,rfl,rfl,E,s⟩:=hrel;have d:=E.out;have hRl:=d.2.2.1;have hij:=d.1;have hjl2:=d.2.1;by_cases hlt:j<l.length
 .have U:j<R.length:=(by omega);obtain⟨b,off,eA,hbw,q,z,B⟩:=RdQ.at_ (show RdQ wr wr.heap.size _ R from Rd.of_own s.out.2.2.1) U;cases eA;simp only[kxg] at q z B;have a:l[j]? = some R[j]:=by rw[<-d.get,kqg U]
  obtain⟨x,u⟩:=xq (R[j]);rw[u] at q z B a;have p:=Eq.out _ (List.mem_of_getElem? a);obtain⟨HK,L⟩:=yq0 (λh=>E.out.keep a h) (λh=>E.out.del a h);obtain⟨xa,h,W⟩:=x;dsimp only at q z B p L;obtain⟨m,rfl⟩:=kqz p.1;have Ke:m<n:=by have:=p.2;omega
  have hlm:(j:Int)<(l.length:Int):=(by omega);have hj0:(0:Int)<=(j:Int):=(by omega);have Kd:(0:Int)<=(i:Int):=(by omega);have T:(i:Int)<(l.length:Int):=(by omega);obtain⟨X,SN⟩:=yq0 (Bx.new wr 92 #[.int .i64 (m:Int),.int .u64 (h:Int),.bool W]) (s.out.alloc HH.out.1 (.cells #[.int .i64 (m:Int),.int .u64 (h:Int),.bool W] 92));have Kc:g<wr.heap.size:=(s.out.2.1.lt g rfl).2;clear u a p d;go_upto_region 8 with (fail);obtain⟨wn,a⟩:∃wn,wr.alloc (.cells #[.int .i64 (m:Int),.int .u64 (h:Int),.bool W] 92)=wn:=⟨_,rfl⟩;rw[a] at X SN |-;have V:wn.heap.size=wr.heap.size+1:=by rw[<-a];simp
  obtain⟨Y,Kb⟩:=xq wr.heap.size;rw[Kb] at X V Kc |-;clear a q z B;have HQ:=y5 (HC.out J R m h W wn SN.out Ke);obtain⟨p0,p1,p2,-,-,-,hgn⟩:=X.out.c3;go_wp2_with fail;refine HQ.out.mono ?_;rintro e q ⟨rfl,p,a⟩;have N:=y5 p;have bn2:Bx q Y _ _:=(a.block Y (by omega) (by first|exact λe=>by injection e with e;omega|exact λe=>by injection e with e;omega)).trans X.out;clear p a p0 p1 p2;obtain⟨p0,p1,p2,-,-,-,hgn2⟩:=bn2.c3;cases W
  .have HY:=y5 (HK.out rfl);have a:rJ H t r g n c (some ⟨f,0,none⟩) l.length o D A y J R q:=N.out;have p:q.there f (i*3) (#[.int .i64 (m:Int),.int .u64 (h:Int),.bool false]:Array Value).size:=jC a.2.2.1 (i*3) 3 (by omega);have S:(prog.info? 92).map (·.size)=some (#[.int .i64 (m:Int),.int .u64 (h:Int),.bool false]:Array Value).size:=by kernel_rfl
   have O:(#[.int .i64 (m:Int),.int .u64 (h:Int),.bool false]:Array Value).all (·.oneCell')=true:=by simp[Value.oneCell']
   have u:=dC (Dw.cells ⟨(m:Int),h,false⟩) (i*3) q _ a.2.2.1;rw[Ar R i _ (by omega)] at u;have z:fT q (q.setCells f (i*3) (Dw.cells ⟨(m:Int),h,false⟩)) f:=⟨cY _ _ _,λg' G=>dW G _ _ _,λB M=>bt M _ (kqe _ _)⟩;have YS:Hid (rJ H t r g n c (some ⟨f,0,none⟩) l.length o D A y J (R.set i ⟨(m:Int),h,false⟩) (q.setCells f (i*3) (Dw.cells ⟨(m:Int),h,false⟩))):=y5 ⟨z.bx a.1 (by omega),cd a.2.1 z.grown (.inr (λe=>C (by injection e with e;exact e.symm))),u,z.below a.2.2.2.1 (kzu HH.out.2 Q),a.2.2.2.2⟩;obtain⟨Z,F⟩:∃Z:Array Value,#[.int .i64 (m:Int),.int .u64 (h:Int),.bool false]=Z:=⟨_,rfl⟩;obtain⟨w3,I⟩:∃w3,q.setCells f (i*3) (Dw.cells ⟨(m:Int),h,false⟩)=w3:=⟨_,rfl⟩;have Kf:q.setCells f (i*3) Z.toList=w3:=by rw[<-F];exact I
   rw[I] at YS;rw[F] at p S O;clear I z u a;go_wp2_with (refine kjr rfl _ _ _ rfl f (i*3) Z (by rfl) (by rw[<-F];rfl) p S O ?_;rw[Kf]);go_roundw
   case rel=>exact⟨i+1,j+1,R.set i ⟨(m:Int),h,false⟩,J,by go_num,by go_num,HY,YS⟩
   case measure=>simp[RowKit.intOf];omega
  have HY:=y5 (L.out rfl);have a:Hid (rJ H t r g n c (some ⟨f,0,none⟩) l.length o D A y (J.set (Int.toNat (m:Int)) h) R q):=y5 (by rw[kqf];exact N.out);go_wp2;go_roundw
  case rel=>exact⟨i,j+1,R,_,rfl,by go_num,HY,a⟩
  case measure=>simp[RowKit.intOf];omega
 have h:j=l.length:=(by omega);have hicl0:l.length<=o:=d6 s.out.2.2.1;have hicl:(i:Int)<=(o:Int):=(by omega);have hill:(i:Int)<=(l.length:Int):=(by omega);have Kd:(0:Int)<=(i:Int):=(by omega);have hne:i≠o:=(by omega);have hnec:¬ ((i:Int)=(o:Int)):=(by omega);obtain⟨N,I⟩:=yq0 (show fnQ l=R.take i by rw[d.2.2.2.1,h,kzb]) (show fnI im l=J by rw[d.2.2.2.2.2,h,kzb]);have m:=s.out.2.2.1.1;obtain⟨L,F⟩:=xq ((Builtin.zeroCells (Value.cells (.agg #[.int .i64 0,.int .u64 0,.bool false])) (l.length-i)).toList);have a:L.length=(l.length-i)*3:=by rw[<-F,lC];rfl
 have p:=jC s.out.2.2.1 (i*3) L.length (by rw[a];omega);have hcl:=kp (P:=prog) wr 77 92 0 _ underlying77 zeroDw L f (i*3) (l.length-i) (o-i) F (by omega)
  (λv b=>by
   rw[<-F] at b;have:=kP b (by decide);simp[Value.cells] at this;rcases this with rfl|rfl|rfl<;>rfl)
  (λq b=>(p q b).1) (λq b=>(p q b).2)
 have z:fT wr (wr.setCells f (i*3) L) f:=⟨cY _ _ _,λg' G=>dW G _ _ _,λB M=>bt M _ (kqe _ _)⟩;obtain⟨q,B,v⟩:=yq1 (z.bx s.out.1 (show r≠f by omega)) (cd s.out.2.1 z.grown (.inr (λe=>C (by injection e with e;exact e.symm)))) (z.below s.out.2.2.2.1 (kzu HH.out.2 Q));have b:=GI (dC L (i*3) wr _ s.out.2.2.1) (k:=i) (by omega);rw[tQ (by rw[m,a];omega),<-ia Dw.cells 3 Dw.len] at b;have G:=y5 b;have T:(R.take i).length=i:=(by rw[kq6];omega);clear F a p d z b m;go_wp2;go_ret;rw[N.out,I.out,T];exact⟨⟨_,_,rfl,G.out⟩,q.out,B.out,v.out⟩
theorem CU(A s:Option Addr)(im:List Nat)(dw:List Dw)(i:Int)(j:Bool)(n c m X:Nat)(w:World)(d:im.length=n)(r:dw.length=m)(a:fg ⟨im,dw,i,j⟩=true)(Kb:m<=1000000)(x:RdW w w.heap.size A im)(y:RdQ w w.heap.size s dw):
 Calls prog 183 #[.agg #[.slice A n c,.slice s m X,.int .i64 i,.bool j]] w λe b=>(∃u,e=.returned (.tuple #[u,.int .i64 0])/\iE b w.heap.size (dvN ⟨im,dw,i,j⟩) u)/\Below w.heap.size w b:=by
 have o:=(cq _).1 a;have z:=(ae _).1 o.1;dsimp only at z;have D : -1<=i/\i<=1000000:=⟨o.2.1,o.2.2.1⟩;have b:=o.2.2.2.2;dsimp only at b;have H:=y5 (fc b);rw[d] at H;have G:=y5 (λW (h:RdQ W W.heap.size s dw)=>kV A s im dw i j n c m X W d r (by omega) (by omega) h);rw[show dZ ⟨im,dw,i,j⟩=0 by unfold dZ;rw[if_pos a]] at G;have l:=y5 (λW (h:RdW W W.heap.size A im) (f:RdQ W W.heap.size s dw)=>oy A s im dw i j n c m X W d r (by omega) (by omega) (by omega) D h f);unfold iE at l;rw[(o0 _).1,(o0 _).2] at l;dsimp only at l;rw[d,r] at l;obtain⟨HR,HQ⟩:=yq0 x y;obtain⟨Z,h,g,B,f,t⟩:=gP w A s i j n c m X;obtain⟨X0,X1,F,k,q⟩:=yq3 g B f d r;obtain⟨E,J,L,N,-,-,-,-,hg⟩:=g.c4;have M:w.heap.size<=Z.heap.size:=(by omega);have Kf:w.heap.size+1<Z.heap.size:=(by omega);have K:w.heap.size+1≠w.heap.size:=(by omega);have Kd:n<=2048:=(by omega);have Kc:0<n:=(by omega);clear x y g B f t d r o z b a;go_enter func183,ntmps183;go_wp2_with fail;clear h;refine (G.out Z (HQ.out.up F.out M)).mono ?_;rintro e T ⟨rfl,a⟩;have g:=X0.out.up a hg;have b:=y5 (F.out.trans (a.mono M));have hz1:=a.size;obtain⟨y,z,C,I,-,-,-,-,f⟩:=g.c4;obtain⟨Y0,Y1⟩:=yq0 g (X1.out.up a Kf);have d:w.heap.size+1<T.heap.size:=(by omega);clear g a E J L N;go_wp2_with fail;refine (l.out T (yq8 HR b) (yq8 HQ b)).mono ?_;rintro e w2 ⟨⟨_,rfl,A1,E,t,B,rfl,J,g,h⟩,a⟩;obtain⟨r,x,Z0,Z1⟩:=yq2 g h (Y0.out.up a f) (Y1.out.up a d);have o:=yq7 b a;have Ke:=a.size;clear a g h y z C I;by_cases g:i=0
 .subst g;have V:Hid (dvN ⟨im,dw,0,j⟩=⟨im,dw,0,true⟩):=y5 (by unfold dvN dvD;rw[if_pos rfl]);rw[rb rfl,show decide ((0:Int)≠0)=false from rfl];unfold dvD;dsimp only;go_wp2_with (first
   | ((with_reducible refine aj 79 (.tmp 1) _ ?_);refine stD Z0.out ?_;intro U z a)
   | ((with_reducible refine av 79 (.tmp 1) ?_);refine ldD z.out ?_)
   | ((with_reducible refine aj 79 (.tmp 2) _ ?_);refine stD (a.out.bx Z1.out K) ?_;intro w9 y h))
  refine kqq (v:=.tuple #[.agg #[.slice A1 n E,.slice t m B,.int .i64 0,.bool true],.int .i64 0]) (aF results183 _ y.out rfl rfl rfl) rfl ⟨⟨_,rfl,by
   rw[V.out];exact⟨A1,E,t,B,by rw[k.out,q.out],by rw[k.out];exact J,by rw[k.out];exact ab (ak (ak r.out a.out f) h.out d) b.out.size,by rw[q.out];exact ab (ak (ak x.out a.out f) h.out d) b.out.size⟩⟩,h.out.below (a.out.below o.out (kqa _)) (by omega)⟩
 have L:decide (i≠0)=true:=by rw[kqh];exact g
 have V:Hid (dvN ⟨im,dw,i,j⟩=⟨fnI im dw,fnQ dw,dec i,j⟩):=y5 (by unfold dvN;rw[if_neg g]);have I:dvB ⟨im,dw,i,j⟩=⟨im,dw,dec i,j⟩:=by unfold dvB;rw[if_neg g]
 rw[L,I];dsimp only;obtain⟨N,C⟩:=xq (dec i);rw[C] at V |-;subst q;clear C I L g D;go_wp2_with (first
  | (((with_reducible refine aj 79 (.tmp 1) _ ?_);refine stD Z0.out ?_;intro U z a);obtain⟨s0,s1,s2,s3,O,P,Q,R,S⟩:=z.out.c4)
  | ((with_reducible refine av 79 (.tmp 1) ?_);refine ldD z.out ?_))
 have hw3:w.heap.size<U.heap.size:=z.out.lt;have L:T.heap.size<=U.heap.size:=by have:=a.out.1;omega
 obtain⟨U1,I,Y,W⟩:=yq2 (a.out.bx Z1.out K) (ak r.out a.out f) (ak x.out a.out f) (a.out.below o.out (kqa _));obtain⟨g,c9,Ka⟩:=fa I.out Kc;injection Ka with e1 e2 e3;subst e1;subst e3;have Eq:(fnI im dw).length=n:=by unfold fnI;rw[mV,k.out]
 clear r x o Z0 Z1 a Ke s0 s1 s2 s3 O P Q R S;refine (xz T.heap.size T.heap.size w.heap.size g n E t B N j U im dw U ⟨z.out,I.out,Y.out,kqe _ _,k.out⟩ L (kqa _) f Kd Kb (λx o=>by have:=H.out x o;omega)).mono ?_;rintro e w4 ⟨⟨q,r,rfl,D⟩,C,o,x⟩;have y1:=U1.out.up x d;have yb:=W.out.trans (x.mono b.out.size);obtain⟨Y0,Y1,YO,YQ,YB⟩:=yq3 (show Bx (w4.setCell ⟨w.heap.size,1,none⟩ (.slice q (fnQ dw).length r)) w.heap.size 79 #[.slice (some ⟨g,0,none⟩) n E,.slice q (fnQ dw).length r,.int .i64 N,.bool j] from C.set_ 1 _) (y1.far (p:=⟨w.heap.size,1,none⟩) (show w.heap.size+1≠w.heap.size by omega) (.slice q (fnQ dw).length r)) (ar o (p:=⟨w.heap.size,1,none⟩) (bI o f).symm (.slice q (fnQ dw).length r)) (ar D (p:=⟨w.heap.size,1,none⟩) (bI D f).symm (.slice q (fnQ dw).length r)) (yb.setCell (p:=⟨w.heap.size,1,none⟩) (kqa _) (.slice q (fnQ dw).length r));obtain⟨s0,s1,s2,s3,O,P,Q,R,S⟩:=C.c4;clear C o D x y1 yb z;go_wp2_with (first
  | ((with_reducible refine av 79 (.tmp 1) ?_);refine ldD Y0.out ?_)
  | ((with_reducible refine aj 79 (.tmp 2) _ ?_);refine stD Y1.out ?_;intro w9 y h))
 refine kqq (v:=.tuple #[.agg #[.slice (some ⟨g,0,none⟩) n E,.slice q (fnQ dw).length r,.int .i64 N,.bool j],.int .i64 0]) (aF results183 _ y.out rfl rfl rfl) rfl ⟨⟨_,rfl,by
  rw[V.out];unfold iE;dsimp only;rw[Eq];exact⟨some ⟨g,0,none⟩,E,q,r,rfl,J,ab (ak YO.out h.out d) b.out.size,ab (ak YQ.out h.out d) b.out.size⟩⟩,h.out.below YB.out (by omega)⟩
theorem wc:∀(l:List Nat) (a:Int) (k:Nat) (h:k<l.length),lsE a (l.take (k+1))=lsE a (l.take k)++[⟨a+(k:Int),l[k]⟩]:=by
 intro l
 induction l with
 | nil=>intro a k h;simp at h
 | cons v l b =>
  intro a k h;cases k with
  | zero=>simp[lsE]
  | succ k =>rw[kxx,kxx];simp only[lsE];rw[b (a+1) k (by simpa using h),kzq];simp only[kql];rw[show a+1+(k:Int)=a+((k+1:Nat):Int) by omega]
theorem vW(A:Option Addr)(l:List Nat)(c n a:Nat)(w:World)(f:l.length=n)(hm:n<=64)(ha:a<=2048)(b:RdW w w.heap.size A l):
 Calls prog 129 #[.int .i64 (a:Int),.slice A n c] w λe d=>(∃j m,e=.returned (.slice j n m)/\d.ownsRow w.heap.size 89 2 (.slice j n m) n ((lsE (a:Int) l).flatMap En.cells))/\Below w.heap.size w d:=by
 subst f;obtain⟨u,o⟩:=yq0 b (λk h=>wc l (a:Int) k h);clear b;obtain⟨y,f,b,d,e⟩:=kzh bE;obtain⟨t,h,p,q⟩:=yq2 f b d e;clear f b d e;go_enter func129,ntmps129;go_wp2_with fail;go_loopw [5,9] (λv i wr=>∃k:Nat,k<=l.length/\i=.int .i64 k/\wr.ownsRow w.heap.size 89 2 v k ((lsE (a:Int) (l.take k)).flatMap En.cells)/\Below w.heap.size w wr) (λ_ i _=>l.length-(RowKit.intOf i).toNat)
 case atStart=>exact⟨0,kqv _,rfl,kq3 _ _ _ _,kqe _ _⟩
 rename_i v5 _;obtain⟨k,hk,rfl,d,f⟩:=hrel;have hz:=f.size;by_cases g:k<l.length
 .obtain ⟨b,off,rfl,hbb,v⟩:=RdW.at_ (u.out.below f) g;have s:=y5 (o.out k g);obtain⟨x,e⟩:=xq (l[k]);rw[e] at v s;have ik1:(0:Int)<=(k:Int):=(by omega);have ik2:(k:Int)<(l.length:Int):=(by omega);have hwa:IntKind.i64.wrap ((a:Int)+(k:Int))=(a:Int)+(k:Int):=kqo _ (by omega);clear e;go_wp2_with (at_builtin;refine kq7 _ rfl _ _ 26 rfl w.heap.size 89 y _ 2 16 underlying26 t.out h.out p.out q.out rfl (by decide) _ _ _ rfl (d.alloc _) ⟨_,0,none⟩ 1 1 [.int .i64 ((a:Int)+(k:Int)),.int .u64 (x:Int)] rfl rfl (bc _ _ _) (by simp[Value.oneCell']) (by unfold maxLen;omega) (by omega) (cr f.size) ?_;intro v1 w1 e r _;have i:=ay f f.size d r);go_roundw
  case rel=>exact⟨k+1,by omega,by go_num,by rw[s.out,ce];exact e,i⟩
  case measure=>simp[RowKit.intOf];omega
 obtain rfl:k=l.length:=(by omega);rw[kzb] at d;obtain⟨j,m,rfl⟩:=aw d;go_wp2;go_ret;exact⟨⟨j,m,rfl,d⟩,f⟩
def Two (w w':World) (a b:Nat):Prop:=∃w1,w.grownBy w1 (some a)/\w1.grownBy w' (some b)
theorem Two.own{v:Value}(h:Two w w' a b)(d:w.ownsRow H e sz v n xs)(i:a<H)(j:b<H):w'.ownsRow H e sz v n xs:=by obtain⟨w1,f,g⟩:=h;have c:=cd d f (.inr (bI d i).symm);exact cd c g (.inr (bI c j).symm)
theorem Two.below{B:Nat}(h:Two w w' a b)(l:Below B w0 w)(f:B<=w.heap.size)(k:B<=a)(c:B<=b):Below B w0 w':=by obtain⟨m,e,g⟩:=h;have i:Below B w0 m:=l.grown e f (λj d=>by cases d;exact k);exact i.grown g (kzu f e.size) (λj d=>by cases d;exact c)
theorem Two.bx{t:TypeId}{cs:Array Value}(h:Two w w' a b)(j:Bx w g t cs)(f:g≠a)(i:g≠b):Bx w' g t cs:=by obtain⟨w1,c,d⟩:=h;exact (j.grown c λe=>f (by injection e)).grown d λe=>i (by injection e)
theorem fm{op:Oper}{a:Act}{K:Act->World->Prop}{Q:Exit->Act->World->Prop}(e:TypeId)(x y:Operand)(l:op.op=.store e x y)(g:Nat)(t:TypeId)(b cs:Array Value)(m:a.eval x=.pointer (some ⟨g,0,none⟩))(hy:a.eval y=.agg cs)(f:Bx w g t b)(i:cs.size=b.size)(k:(P.info? e).map (·.size)=some cs.size)(j:cs.all (·.oneCell')=true)(h:∀W',Bx W' g t cs->fT w W' g->K (a.put op.dst undef) W'):op.wp P a w K Q:=by
 have d:w.there g 0 cs.size:=by rw[i];exact ki f
 exact wp_store_mid e x y l g 0 cs m hy d k j (h _ (fX f i) ⟨cY _ _ _,λg' c=>dW c _ _ _,λB c=>bt c _ (kqe _ _)⟩)
theorem eI{o:Oper}{a:Act}(b:TypeId)(x:Operand)(i:o.op=.load b x)(g:Nat)(k:a.eval x=.pointer (some ⟨g,0,none⟩))(t:TypeId)(cs:Array Value)(d:TypeDesc)(c:Bx w g t cs)(j:P.underlying b=some d)(e:(match d with | .struct _ | .array _ _=>true | _=>false)=true)(f:(P.info? b).map (·.size)=some cs.size):(execOp a.eval o).run P w=.ok (.value (.agg cs)) w:=by have h:=run_loadVar_row w g t b cs (0,0) d c j e f;unfold execOp;simp only[i,k,Instr.loadAt,Instr.sureAddr,Sem.run_bind,Sem.run_pure,Result.andThen_ok,h]
def Ej (B H:Nat) (w:World) (A:Option Addr) (n c:Nat) (DA:Option Addr) (m dc:Nat) (im:List Nat) (dw:List Dw):Prop:=
 (RdW w B A im/\RdQ w B DA dw)\/(w.ownsRow H 53 1 (.slice A n c) n (im.flatMap ap)/\w.ownsRow H 92 3 (.slice DA m dc) m (dw.flatMap Dw.cells))
section
variable {B H:Nat} {w w':World} {A DA:Option Addr} {n c m dc:Nat} {im:List Nat} {dw:List Dw}
theorem Ej.rd(h:Ej B H w A n c DA m dc im dw)(a:B<=w.heap.size):RdW w w.heap.size A im/\RdQ w w.heap.size DA dw:=by
 rcases h with h|h
 .exact ⟨Rd.more h.1 a,Rd.more h.2 a⟩
 exact⟨Rd.of_own h.1,Rd.of_own h.2⟩
theorem Ej.up(h:Ej B H w A n c DA m dc im dw)(a:Below w.heap.size w w')(b:B<=w.heap.size):Ej B H w' A n c DA m dc im dw:=by
 rcases h with h|h
 .exact .inl ⟨Rd.below h.1 (a.mono b),Rd.below h.2 (a.mono b)⟩
 exact .inr ⟨ag h.1 a (kqa _),ag h.2 a (kqa _)⟩
end
theorem zk(b a:Nat)(j:Array Value)(A d:Option Addr)(i:Int)(g:Bool)(n c m f:Nat)(w:World)(y:j.size=4)(s:Bx w b 27 #[.int .i64 0])(q:Bx w a 79 j)(k:b≠a):
 Calls prog 179 #[.agg #[.slice A n c,.slice d m f,.int .i64 i,.bool g],.int .i64 0,.pointer (some ⟨b,0,none⟩),.pointer (some ⟨a,0,none⟩)] w λe h=>e=.returned (.tuple #[])/\Bx h b 27 #[.int .i64 0]/\Bx h a 79 #[.slice A n c,.slice d m f,.int .i64 i,.bool g]/\Two w h a b:=by
 obtain⟨o,t,x,u⟩:=yq2 (s.alloc (.cells #[.slice A n c,.slice d m f,.int .i64 i,.bool g] 79)) (q.alloc (.cells #[.slice A n c,.slice d m f,.int .i64 i,.bool g] 79)) (Bx.new w 79 #[.slice A n c,.slice d m f,.int .i64 i,.bool g]) (show w.grownBy (w.alloc (.cells #[.slice A n c,.slice d m f,.int .i64 i,.bool g] 79)) (some a) from eB ((kqe w.heap.size w).alloc (kqa _) _));obtain⟨v,r⟩:=xq (w.alloc (.cells #[.slice A n c,.slice d m f,.int .i64 i,.bool g] 79));rw[r] at o t x u;have hgd:a<w.heap.size:=q.lt;have hge:b<w.heap.size:=s.lt;have hnd:w.heap.size≠a:=(by omega);have hne2:w.heap.size≠b:=(by omega);have l:a≠b:=λh=>k h.symm;have z:=y5 y;obtain⟨e0,ef,-⟩:=o.out.c1;clear s q y;go_enter func179,ntmps179;go_wp2_with (first
  | ((with_reducible refine av 79 (.tmp 4) ?_);refine ldD x.out ?_)
  | (((with_reducible refine aj 79 (.tmp 3) _ ?_);refine ai rfl _ _ _ rfl a 79 j #[.slice A n c,.slice d m f,.int .i64 i,.bool g] (by rfl) (by rfl) t.out z.out.symm gu (by simp[Value.oneCell']) ?_;intro q h e;have y:=y5 h;have s:=y5 e;clear h e);have e:=y5 (s.out.bx o.out k);obtain⟨u0,uf,-⟩:=e.out.c1))
 go_end0;refine⟨rfl,e.out.set_ 0 (.int .i64 0),y.out.far (p:=⟨b,0,none⟩) l _,q,nN u.out s.out.grown,eZ (vs:=[.int .i64 0]) (eB (kqe q.heap.size q))⟩
theorem EH :∀ {l:List Dw} {b:Int},fP n l b=true -> -1<=b->(l.length:Int)+b<(n:Int)\/l=[]:=by
 intro l
 induction l with
 | nil=>intro b _ _;exact .inr rfl
 | cons e l c =>
  intro b h hb;simp only[fP,kqs,kze] at h;rcases c h.2.2 (by omega) with a|a
  .left;rw[kq4];omega
  left;subst a;simp only[kq4,kxd];omega
theorem jn(h:fg d=true):d.dw.length<=2048/\256<=d.im.length/\d.im.length<=2048:=by
 have b:=(cq d).1 h;have hs:=(ae _).1 b.1;refine⟨?_,by omega,by omega⟩;rcases EH b.2.2.2.2 (by omega) with a|a
 .omega
 rw[a];simp
theorem s6{l:List En}(b:k<l.length):rT d (l.take (k+1))=dvS (rT d (l.take k)) l[k].a l[k].v:=by unfold rT;rw[kqi b,kva];rfl
theorem wK{cs:Array Value}(h:lV cs ad n):cs.all (·.oneCell')=true:=by rw[kkn];intro i b;have a:=h.2 i (by have:=h.1;omega);rw[kx7 b] at a;injection a with a;rw[a];rfl
theorem JA:(prog.info? 156).map (·.size)=some 256:=by kernel_rfl
theorem C4{x:Int}:∀ {n:Nat},dr ad x n=true->∃j,j<n/\(ad[j]?.getD 0)/8=x/8:=by
 intro n
 induction n with
 | zero=>intro h;cases h
 | succ n b =>
  intro h;unfold dr at h;rw[kxw] at h;rcases h with h|h
  .obtain ⟨j,h1,a⟩:=b h;exact⟨j,by omega,a⟩
  exact⟨n,by omega,by rwa [kqw] at h⟩
structure RpSt (w:World) (gE n:Nat) (d:Dv) (A:Option Addr) (c:Nat) (DA:Option Addr) (dc:Nat) (wr:World):Prop where
 be:Bx wr gE 27 #[.int .i64 0]
 bd:Bx wr w.heap.size 79 #[.slice A n c,.slice DA d.dw.length dc,.int .i64 d.left,.bool d.down]
 br:Bx wr (w.heap.size+1) 79 #[.slice none 0 0,.slice none 0 0,.int .i64 0,.bool false]
 at_:Ej w.heap.size (gE+1) wr A n c DA d.dw.length dc d.im d.dw
 len:d.im.length=n
 cap:n<=c
 ok:fg d=true
 below:Below w.heap.size w wr
section
variable {w wr wr':World} {gE n c dc:Nat} {d:Dv} {A DA:Option Addr}
theorem RpSt.up(h:RpSt w gE n d A c DA dc wr)(a:Below wr.heap.size wr wr'):RpSt w gE n d A c DA dc wr':=
 ⟨h.be.up a h.be.lt,h.bd.up a h.bd.lt,h.br.up a h.br.lt,h.at_.up a h.below.size,h.len,h.cap,h.ok,h.below.trans (a.mono h.below.size)⟩
theorem RpSt.alloc(h:RpSt w gE n d A c DA dc wr)(o:Obj):RpSt w gE n d A c DA dc (wr.alloc o):=h.up ((kqe _ _).alloc (kqa _) o)
theorem RpSt.do_(h:RpSt w gE n d A c DA dc wr){w2 w3:World}(i:Below wr.heap.size wr w2)(hE:w.heap.size+1<gE){d2:Dv}{A2 DA2:Option Addr}{c2 dc2:Nat}(f:w2.ownsRow wr.heap.size 53 1 (.slice A2 n c2) n (d2.im.flatMap ap))(g:w2.ownsRow wr.heap.size 92 3 (.slice DA2 d2.dw.length dc2) d2.dw.length (d2.dw.flatMap Dw.cells))(j:n<=c2)(m:d2.im.length=n)(e:fg d2=true)(l:Bx w3 gE 27 #[.int .i64 0])(k:Bx w3 w.heap.size 79 #[.slice A2 n c2,.slice DA2 d2.dw.length dc2,.int .i64 d2.left,.bool d2.down])(a:Two w2 w3 w.heap.size gE):RpSt w gE n d2 A2 c2 DA2 dc2 w3:=by have b:=h.up i;have hg:=h.be.lt;refine⟨l,k,a.bx b.br (by omega) (by omega),.inr ⟨a.own (ab f (show gE+1<=wr.heap.size by omega)) (by omega) (by omega),a.own (ab g (show gE+1<=wr.heap.size by omega)) (by omega) (by omega)⟩,m,j,e,a.below b.below b.below.size (kqa _) (by omega)⟩
end
theorem IY(A DA B:Option Addr)(im:List Nat)(dw:List Dw)(lf:Int)(dn:Bool)(n c m dc:Nat)(l:List En)(ln lc:Nat)(w:World)(j:im.length=n)(i:dw.length=m)(hc:n<=c)(a:fg ⟨im,dw,lf,dn⟩=true)(b:l.length=ln)(h64:ln<=64)(g:oU n l)(y:∀e∈l,e.v<18446744073709551616)(x:RdW w w.heap.size A im)(hr:RdQ w w.heap.size DA dw)(t:RdE w w.heap.size B l):
 Calls prog 128 #[.agg #[.slice A n c,.slice DA m dc,.int .i64 lf,.bool dn],.slice B ln lc] w λe f=>(∃u,e=.returned (.tuple #[u,.int .i64 0])/\iE f w.heap.size (rpP ⟨im,dw,lf,dn⟩ l) u)/\Below w.heap.size w f:=by
 have hb:=jn a;dsimp only at hb;rw[j,i] at hb;obtain⟨hb1,hb2,hb3⟩:=hb;subst b;have b:=y5 (λW (h:RdQ W W.heap.size DA dw)=>kV A DA im dw lf dn n c m dc W j i (by omega) (by omega) h);rw[iY a] at b;obtain⟨W0,p,z,C,f,q⟩:=gP w A DA lf dn n c m dc;obtain⟨o,s,Kg,r,k,HE,HN,HM⟩:=yq6 z C f x hr t j i;obtain⟨Kh,Ke,HV⟩:=yq1 a g y;have Kl:w.heap.size<=W0.heap.size:=(by omega);have Kn:w.heap.size<W0.heap.size:=(by omega);have Ko:w.heap.size+1<W0.heap.size:=(by omega);have hgt:decide ((64:Int)<(l.length:Int))=false:=(by rw[kqb];omega);clear x hr t z C f q j i a g y;go_enter func128,ntmps128;go_wp2_with (first
  | ((with_reducible refine av 79 (.tmp 2) ?_);refine ldD o.out ?_))
 clear p;refine (b.out W0 (k.out.up Kg.out Kl)).mono ?_;rintro e Y ⟨rfl,a⟩;have Kp:=a.size;have Kf:w.heap.size+1<Y.heap.size:=(by omega);have ST0:=y5 (show RpSt w Y.heap.size n ⟨im,dw,lf,dn⟩ A c DA dc (Y.alloc (.cells #[.int .i64 0] 27)) from by
  have g:Below Y.heap.size Y (Y.alloc (.cells #[.int .i64 0] 27)):=(kqe _ _).alloc (kqa _) _;have f:=Kg.out.trans ((a.trans (g.mono Kp)).mono Kl);refine⟨Bx.new _ _ _,?_,(s.out.up a Ko).alloc _,.inl ⟨r.out.below f,k.out.below f⟩,HN.out,hc,Kh.out,f⟩;dsimp only;rw[HM.out];exact (o.out.up a Kn).alloc _)
 clear a b r k o s;go_wp2_with fail;go_loopw [26] (λi wr=>∃k:Nat,k<=l.length/\i=.int .i64 k/\Hid (RpSt w Y.heap.size n ⟨im,dw,lf,dn⟩ A c DA dc wr)) (λi _=>l.length-(RowKit.intOf i).toNat)
 case atStart=>exact⟨0,kqv _,rfl,ST0⟩
 obtain⟨k,hk,rfl,HS⟩:=hrel;by_cases I:k<l.length
 .obtain ⟨b,off,rfl,hb,h0,h1⟩:=RdE.at_ (show RdE wr w.heap.size B l from HE.out.below HS.out.below) I;have hr:=Ke.out _ (kqp I);obtain⟨x,F⟩:=xq (l[k]);rw[F] at h0 h1 hr;obtain⟨xa,xv⟩:=x;dsimp only at h0 h1 hr;have hd1:decide (xa<0)=false:=(by rw[kqb];omega);have Kk:decide ((n:Int)<=xa)=false:=(by rw[kqb];omega);obtain⟨d0,-,-,-,-,-,-,-,hgd⟩:=HS.out.bd.c4;have ik1:(0:Int)<=(k:Int):=(by omega);have ik2:(k:Int)<(l.length:Int):=(by omega);have X:=y5 (HS.out.alloc (.cells #[.int .i64 xa,.int .u64 (xv:Int)] 89));clear F hr;go_wp2;go_roundw
  case rel=>exact⟨k+1,by omega,by go_num,X⟩
  case measure=>simp[RowKit.intOf];omega
 obtain rfl:k=l.length:=(by omega);go_wp2_with fail;go_loopw [46] (λi wr=>∃(k:Nat) (d2:Dv) (A2 D:Option Addr) (c2 R:Nat),k<=l.length/\i=.int .i64 k/\Hid (rT ⟨im,dw,lf,dn⟩ (l.take k)=d2)/\Hid (RpSt w Y.heap.size n d2 A2 c2 D R wr)) (λi _=>l.length-(RowKit.intOf i).toNat)
 case atStart=>exact⟨0,_,_,_,_,_,kqv _,rfl,y5 rfl,HS⟩
 obtain⟨k,d2,A2,D,c2,R,hk,rfl,t,f⟩:=hrel;by_cases I:k<l.length
 .obtain ⟨b,off,rfl,hb,h0,h1⟩:=RdE.at_ (show RdE wr w.heap.size B l from HE.out.below f.out.below) I;have hr:=Ke.out _ (kqp I);have q:=HV.out _ (kqp I);have Kc:=y5 (s6 (d:=⟨im,dw,lf,dn⟩) I);rw[t.out] at Kc;obtain⟨x,F⟩:=xq (l[k]);rw[F] at h0 h1 hr q Kc;obtain⟨xa,xv⟩:=x;dsimp only at h0 h1 hr q Kc;obtain⟨a,rfl⟩:=kqz hr.1;have Ki:a<n:=(by omega);obtain⟨r,g,C,z⟩:=d2;have ik1:(0:Int)<=(k:Int):=(by omega);have ik2:(k:Int)<(l.length:Int):=(by omega);have j:=y5 (f.out.alloc (.cells #[.int .i64 (a:Int),.int .u64 (xv:Int)] 89));have HWN:Hid (∃W,W=wr.alloc (.cells #[.int .i64 (a:Int),.int .u64 (xv:Int)] 89)):=y5 ⟨_,rfl⟩;have Kd:=(jn f.out.ok).1;dsimp only at Kd;have o:=y5 (λW (h:RdW W W.heap.size A2 r) (h2:RdQ W W.heap.size D g)=>Ak A2 D r g C z n c2 g.length R a xv W f.out.len rfl f.out.ok Ki q (by omega) h h2);unfold iE at o;obtain⟨s,y⟩:=yq0 (v9 (a:=(a:Int)) (v:=xv) f.out.ok (by omega) (by rw[f.out.len];omega)) ((congrArg List.length (ss ⟨r,g,C,z⟩ (a:Int) xv)).trans f.out.len);obtain⟨d3,p⟩:∃d3,dvS ⟨r,g,C,z⟩ (a:Int) xv=d3:=⟨_,rfl⟩;rw[p] at o s y Kc;rw[y.out] at o;have hd:=j.out.bd;dsimp only at hd;obtain⟨E,P⟩:=yq0 hd (j.out.at_.rd j.out.below.size);clear F hr q p hd t f;go_wp2_with (first
   | ((with_reducible refine av 79 (.tmp 2) ?_);refine ldD E.out ?_))
  refine (o.out _ P.out.1 P.out.2).mono ?_;rintro e w2 ⟨⟨_,rfl,A3,c3,G,H,rfl,Ka,U,V⟩,q⟩;obtain⟨im3,L,M,J⟩:=d3;obtain⟨Z,Eq,Kb,K,O⟩:=yq3 U V q (E.out.up q E.out.lt) (j.out.be.up q j.out.be.lt);have N:=y5 (zk Y.heap.size w.heap.size _ A3 G M J n c3 L.length H w2 rfl O.out K.out (by omega));clear U V q;dsimp only at N |-;go_wp2_with fail;refine N.out.mono ?_;rintro e w3 ⟨rfl,T,p,F⟩;have Q:=y5 (j.out.do_ Kb.out Kf Z.out Eq.out Ka y.out s.out T p F);clear T p F;go_wp2;go_roundw
  case rel=>exact⟨k+1,_,_,_,_,_,by omega,by go_num,Kc,Q⟩
  case measure=>simp[RowKit.intOf];omega
 obtain rfl:k=l.length:=(by omega);rw[kzb] at t;have Kc:=y5 (λW (h:RdE W W.heap.size B l)=>In B l lc l.length W rfl (by omega) h (λk hk=>by rw[cZ l k hk];have:=Ke.out _ (kqp hk);omega));have Kq:=u9;go_wp2_with fail;refine (Kc.out _ (HE.out.up f.out.below f.out.below.size)).mono ?_;rintro e w4 ⟨⟨cs,rfl,Kj⟩,Ki⟩;obtain⟨x,b,L0⟩:=yq1 Kj (f.out.up Ki) (Bx.new w4 156 kv);obtain⟨dS,j⟩:∃dS,rT ⟨im,dw,lf,dn⟩ l=dS:=⟨_,rfl⟩;rw[j] at t;have Km:=y5 j;have Kk:=t.out;subst Kk;clear Kj Ki Kc j t;go_wp2_with (((with_reducible refine aj 156 (.tmp 12) _ ?_);refine ai rfl _ _ _ rfl w4.heap.size 156 kv cs (by rfl) (by rfl) L0.out (by rw[x.out.1];rfl) (by rw[x.out.1];exact JA) (wK x.out) ?_;intro w5 Kc j;have L5:=y5 Kc;have Ki:=y5 (b.out.up (j.below ((kqe w4.heap.size w4).alloc (kqa _) (.cells kv 156)) (kqa _)));clear Kc j));have hgL:Y.heap.size<w4.heap.size:=b.out.be.lt;clear Kq L0 b f;go_loopw [63] (λi wr=>∃(k:Nat) (d2:Dv) (A2 D:Option Addr) (c2 R:Nat),k<=256/\i=.int .i64 k/\Hid (lE (b9 l) dS k=d2)/\Hid (RpSt w Y.heap.size n d2 A2 c2 D R wr)/\Hid (Bx wr w4.heap.size 156 cs)) (λi _=>256-(RowKit.intOf i).toNat)
 case atStart=>exact⟨0,_,_,_,_,_,kqv _,rfl,y5 rfl,Ki,L5⟩
 obtain⟨k,d2,A2,D,c2,R,hk,rfl,t,f,HL⟩:=hrel;have ik1:(0:Int)<=(k:Int):=(by omega);by_cases I:k<256
 .have ik2:(k:Int)<256:=(by omega);have b:=HL.out.cell k;rw[x.out.2 k I] at b;cases i:dr (b9 l) (8*(k:Int)) l.length
  .have X:Hid (lE (b9 l) dS (k+1)=d2):=y5 (by unfold lE;rw[bD,i,if_neg (by simp)];exact t.out);rw[i] at b;clear i;go_wp2;go_roundw
   case rel=>exact⟨k+1,_,_,_,_,_,by omega,by go_num,X,f,HL⟩
   case measure=>simp[RowKit.intOf];omega
  have Kc:8*k<n:=by obtain⟨j,hj,ej⟩:=C4 i;rw[cZ l j hj] at ej;have:=Ke.out _ (kqp hj);have h8:=(ae _).1 ((cq _).1 Kh.out).1;dsimp only at h8;rw[HN.out] at h8;omega
  have X:Hid (lE (b9 l) dS (k+1)=dvF d2 (8*(k:Int))):=y5 (by unfold lE;rw[bD,i,if_pos rfl,t.out]);rw[i] at b;obtain⟨r,g,C,z⟩:=d2;have Kd:=(jn f.out.ok).1;dsimp only at Kd;have j:((8*k:Nat):Int)=8*(k:Int):=(by omega);have hw8:IntKind.i64.wrap (8*(k:Int))=8*(k:Int):=kqo _ (by omega);have o:=y5 (λW (h:RdW W W.heap.size A2 r) (h2:RdQ W W.heap.size D g)=>zj A2 D r g C z n c2 g.length R (8*k) W f.out.len rfl f.out.ok Kc (by omega) h h2);unfold iE at o;rw[j] at o;obtain⟨s,y⟩:=yq0 (zn (a:=8*(k:Int)) f.out.ok) ((congrArg List.length (Cq ⟨r,g,C,z⟩ (8*(k:Int)))).trans f.out.len);obtain⟨d3,p⟩:∃d3,dvF ⟨r,g,C,z⟩ (8*(k:Int))=d3:=⟨_,rfl⟩;rw[p] at o s y X;rw[y.out] at o;have hd:=f.out.bd;dsimp only at hd;obtain⟨E,P⟩:=yq0 hd (f.out.at_.rd f.out.below.size);clear i p hd t j;go_wp2_with (first
   | ((with_reducible refine av 79 (.tmp 2) ?_);refine ldD E.out ?_))
  refine (o.out _ P.out.1 P.out.2).mono ?_;rintro e w6 ⟨⟨_,rfl,A3,c3,G,H,rfl,Ka,U,V⟩,q⟩;obtain⟨im3,L,M,J⟩:=d3;obtain⟨Z,Eq,Kb,K,O,i⟩:=yq4 U V q (E.out.up q E.out.lt) (f.out.be.up q f.out.be.lt) (HL.out.up q HL.out.lt);have N:=y5 (zk Y.heap.size w.heap.size _ A3 G M J n c3 L.length H w6 rfl O.out K.out (by omega));clear U V q o b;dsimp only at N |-;go_wp2_with fail;refine N.out.mono ?_;rintro e b ⟨rfl,T,p,F⟩;obtain⟨Q,j⟩:=yq0 (f.out.do_ Kb.out Kf Z.out Eq.out Ka y.out s.out T p F) (F.bx i.out (by omega) (by omega));clear T p F;go_wp2;go_roundw
  case rel=>exact⟨k+1,_,_,_,_,_,by omega,by go_num,X,Q,j⟩
  case measure=>simp[RowKit.intOf];omega
 obtain rfl:k=256:=(by omega);obtain⟨r,g,C,z⟩:=d2;have Kd:=(jn f.out.ok).1;dsimp only at Kd;have o:=y5 (λW (h:RdW W W.heap.size A2 r) (h2:RdQ W W.heap.size D g)=>CU A2 D r g C z n c2 g.length R W f.out.len rfl f.out.ok (by omega) h h2);unfold iE at o;obtain⟨s,y⟩:=yq0 (GB f.out.ok) ((ub ⟨r,g,C,z⟩).trans f.out.len);have HR:Hid (rpP ⟨im,dw,lf,dn⟩ l=dvN ⟨r,g,C,z⟩):=y5 (by unfold rpP;rw[Km.out,t.out]);obtain⟨d3,p⟩:∃d3,dvN ⟨r,g,C,z⟩=d3:=⟨_,rfl⟩;rw[p] at o s y HR;rw[y.out] at o;have hd:=f.out.bd;dsimp only at hd;obtain⟨E,P⟩:=yq0 hd (f.out.at_.rd f.out.below.size);clear p hd t I hk ik1;go_wp2_with (first
  | ((with_reducible refine av 79 (.tmp 2) ?_);refine ldD E.out ?_))
 refine (o.out _ P.out.1 P.out.2).mono ?_;rintro e w6 ⟨⟨_,rfl,A3,c3,G,H,rfl,Ka,U,V⟩,q⟩;obtain⟨im3,L,M,J⟩:=d3;obtain⟨Z,Eq,Kb,K,O⟩:=yq3 U V q (E.out.up q E.out.lt) (f.out.be.up q f.out.be.lt);have N:=y5 (zk Y.heap.size w.heap.size _ A3 G M J n c3 L.length H w6 rfl O.out K.out (by omega));clear U V q o;dsimp only at N |-;go_wp2_with fail;refine N.out.mono ?_;rintro e b ⟨rfl,T,p,F⟩;obtain⟨Q,z,C⟩:=yq1 (f.out.do_ Kb.out Kf Z.out Eq.out Ka y.out s.out T p F) (F.own (ab Z.out (show Y.heap.size+1<=wr.heap.size from f.out.be.lt)) (by omega) (by omega)) (F.own (ab Eq.out (show Y.heap.size+1<=wr.heap.size from f.out.be.lt)) (by omega) (by omega));clear T p F;go_wp2_with fail;obtain⟨W7,g⟩:=xq b.drew;obtain⟨r,t,I,W,i,h⟩:=yq4 (show Bx b.drew _ _ _ from Q.out.bd) (show Bx b.drew _ _ _ from Q.out.be) (show Bx b.drew _ _ _ from Q.out.br) (Q.out.below.drew) (show b.drew.ownsRow _ _ _ _ _ _ from z.out) (show b.drew.ownsRow _ _ _ _ _ _ from C.out);dsimp only at r t I h
 refine kz4 (S:=λX:World=>Bx X w.heap.size 79 #[.slice A3 n c3,.slice G L.length H,.int .i64 M,.bool J]/\Bx X Y.heap.size 27 #[.int .i64 0]) (by kernel_rfl) ⟨r.out,t.out⟩ (λa=>?_);rw[g] at r t I W i h a |-;clear g;show wpAnyH _ _ _ _ _ 4 _ _ _;refine tk 0 (.agg #[.slice A3 n c3,.slice G L.length H,.int .i64 M,.bool J]) ?_ ?_
 .intro X b;exact eI 79 (.tmp 2) rfl w.heap.size (by rfl) 79 _ _ b.1 underlying79 (by rfl) gu
 dsimp only[Act.put,kqr,kqn,kql,kqd,kqk,kqj];refine tk 1 (.int .i64 0) ?_ ?_
 .intro X b;obtain⟨e0,-,-⟩:=b.2.c1;go_simp
 dsimp only[Act.put,kqr,kqn,kql,kqd,kqk,kqj];refine kzr (rs:=[2]) (by kernel_rfl) (by simp) ?_;refine AllReadyH.cons rfl (λK q=>?_) AllReadyH.nil;rw[if_pos (by kernel_rfl)];refine fm 79 (.tmp 4) _ rfl (w.heap.size+1) 79 #[.slice none 0 0,.slice none 0 0,.int .i64 0,.bool false] #[.slice A3 n c3,.slice G L.length H,.int .i64 M,.bool J] (by rfl) (by rfl) I.out rfl gu (by simp[Value.oneCell']) ?_;intro W8 j b;refine q.out _ _ ⟨b.bx r.out (by omega),b.bx t.out (by omega)⟩ (λp=>?_);obtain⟨o,g⟩:=yq0 j b;clear q K j b a;refine tj 3 (.int .i64 0) ?_;dsimp only[Act.put,kqr,kqn,kql,kqd,kqk,kqj];clear p;refine kx0 (by kernel_rfl) ?_ _;go_wp2_with fail;refine kqq (v:=.tuple #[.agg #[.slice A3 n c3,.slice G L.length H,.int .i64 M,.bool J],.int .i64 0]) (aF results128 _ o.out rfl rfl rfl) rfl ⟨⟨_,rfl,by
  rw[HR.out];unfold iE;dsimp only;rw[show im3.length=n from y.out];exact⟨A3,c3,G,H,rfl,Ka,ab (ak i.out g.out (by omega)) (by omega),ab (ak h.out g.out (by omega)) (by omega)⟩⟩,g.out.below W.out (by omega)⟩
theorem vB(w:World)(H:Nat)(e:TypeId)(sz:Nat):w.ownsRow H e sz (.slice none 0 0) 0 []:=⟨by simp,.inl ⟨rfl,rfl⟩⟩
theorem yt(s:Nat):s &&& 288230376151711743=s%288230376151711744:=by rw[show (288230376151711743:Nat)=2 ^ 58-1 from rfl,kx4]
theorem Fy(w:World):Calls prog 224 #[.int .i64 0,.int .i64 58] w λe a=>e=.returned (.int .u64 288230376151711743)/\w=a:=by go_enter func224,ntmps224;go_wp2;go_ret;exact⟨rfl,rfl⟩
theorem GX(s:Nat)(w:World)(a:s<18446744073709551616):Calls prog 223 #[.int .u64 (s:Int),.int .i64 0,.int .i64 58] w λe b=>e=.returned (.tuple #[.int .u64 ((s%288230376151711744:Nat):Int),.int .i64 0])/\w=b:=by have b:=y5 (u64_and_nat s 288230376151711743 a (by omega));clear a;go_enter func223,ntmps223;go_wp2_with fail;refine (Fy w).mono ?_;rintro e w1 ⟨rfl,rfl⟩;have a:=b.out;rw[yt] at a;go_wp2;go_ret2;exact⟨by rw[<-a];rfl,rfl⟩
theorem yV(A:Option Addr)(l:List Nat)(c n:Nat)(w:World)(b:l.length=n)(k:n<=2048)(a:RdW w w.heap.size A l)(d:∀x∈l,x<2^64):
 Calls prog 177 #[.slice A n c,.int .i64 58] w λe f=>e=.returned (.tuple #[.int .u64 ((aR 14695981039346656037 l%288230376151711744:Nat):Int),.int .i64 0])/\Below w.heap.size w f:=by have j:=y5 a;obtain⟨i,h⟩:=yq0 d b;clear a d b;have g:=y5 (gM (s:=14695981039346656037) (by omega) l);go_enter func177,ntmps177;go_wp2_with fail;refine (re A l c n w h.out k j.out i.out).mono ?_;rintro e w1 ⟨rfl,f⟩;obtain⟨q,d⟩:=xq (aR 14695981039346656037 l);have b:=y5 d;rw[d] at g |-;clear d;go_wp2_with fail;refine (GX q _ g.out).mono ?_;rintro e w2 ⟨rfl,rfl⟩;obtain⟨r,a⟩:=xq (q%288230376151711744);have d:=y5 a;rw[a];clear a;go_wp2;go_ret2;exact⟨by rw[b.out,d.out];rfl,f⟩
theorem Je:∀k:Fin 64,bits .andNot .u64 ((k.val:Nat):Int) 18446744073709551552=((k.val:Nat):Int):=by decide +kernel
theorem Hx(k s:Nat)(c:k<64)(hs:s<288230376151711744):bits .or .u64 (bits .andNot .u64 (k:Int) 18446744073709551552) ((s:Int)*64)=((k+s*64:Nat):Int):=by rw[Je ⟨k,c⟩];have h:=u64_or_nat k (s*64) (by omega) (by omega);rw[show (((s*64:Nat):Int))=(s:Int)*64 by omega] at h;rw[h];have a:=Nat.two_pow_add_eq_or_of_lt (i:=6) (b:=k) (by omega) s;rw[Nat.or_comm,show s*64=2 ^ 6*s by omega,<-a];omega
theorem Hc(w:World):Calls prog 224 #[.int .i64 6,.int .i64 58] w λe a=>e=.returned (.int .u64 18446744073709551552)/\w=a:=by go_enter func224,ntmps224;go_wp2;go_ret;exact⟨rfl,rfl⟩
theorem setW_c(k s:Nat)(w:World)(a:k<64)(b:s<288230376151711744):Calls prog 178 #[.int .u64 (k:Int),.int .i64 6,.int .i64 58,.int .u64 (s:Int)] w λe c=>e=.returned (.tuple #[.int .u64 ((k+s*64:Nat):Int),.int .i64 0])/\w=c:=by
 have hs2:¬ ((288230376151711743:Int)<(s:Int)):=(by omega);obtain⟨d,c⟩:=yq0 b a;clear b a;go_enter func178,ntmps178;go_wp2_with fail;refine (Hc w).mono ?_;rintro e w1 ⟨rfl,rfl⟩;go_wp2;go_ret2;exact⟨by rw[<-Hx k s c.out d.out];rfl,rfl⟩
theorem uK{l:List En}(b:∀e∈l,e.ok):∀x∈bH l,x<18446744073709551616:=by
 induction l with
 | nil=>intro x a;simp[bH] at a
 | cons e l f =>
  intro x a;have c:=b e (by simp);unfold En.ok at c;simp only[bH,kq0] at a;rcases a with rfl|rfl|a
  .omega
  .omega
  exact f (λy d=>b y (by simp[d])) x a
theorem Fi(A:Option Addr)(l:List En)(c n:Nat)(G:Int)(w:World)(f:l.length=n)(h0:0<n)(hm:n<=32)(d:dG (b9 l) G=0)(j:RdE w w.heap.size A l)(i:∀e∈l,e.ok):
 Calls prog 126 #[.slice A n c,.int .i64 G] w λe a=>e=.returned (.tuple #[.int .u64 (cmW l:Int),.int .i64 0])/\Below w.heap.size w a:=by
 have g:=y5 (py A l c n G w f (by omega) j i);unfold Am at g;have k:eO l G=bH l:=by simp[eO,d]
 rw[k,d] at g;obtain⟨N,a⟩:=xq ((bH l).length);have hN2:N<=64:=by have:=fZ l;omega
 rw[a] at g;obtain⟨h,p⟩:=yq0 (uK i) a;have b:Hid ((cmW l:Nat)=n+aR 14695981039346656037 (bH l)%288230376151711744*64):=y5 (by unfold cmW;rw[f];omega);clear k a i d f;have hnz:¬ ((n:Int)=0):=(by omega);clear j;go_enter func126,ntmps126;go_wp2_with fail;refine g.out.mono ?_;rintro e m ⟨⟨o,r,rfl,f⟩,a⟩;obtain⟨i,d⟩:=yq0 (show RdW m m.heap.size o (bH l) from Rd.of_own f) a;clear f a;go_wp2_with fail;refine (yV o (bH l) r N m p.out (by omega) i.out h.out).mono ?_;rintro e t ⟨rfl,a⟩;have f:=yq7 d a;clear a;obtain⟨s,k⟩:=xq (aR 14695981039346656037 (bH l)%288230376151711744);have a:s<288230376151711744:=by rw[<-k];exact kz3 _ (by omega)
 rw[k] at b |-;have j:=y5 (λW=>setW_c n s W (by omega) a);have hwn:IntKind.u64.wrap (n:Int)=(n:Int):=by rw[IntKind.wrap_u64];omega
 clear k a;go_wp2_with fail;refine (j.out t).mono ?_;rintro e w3 ⟨rfl,rfl⟩;obtain⟨q,a⟩:=xq (n+s*64);rw[a] at b |-;clear a;go_wp2;go_ret2;exact⟨by rw[b.out];rfl,f.out⟩
section
variable {w wr wr':World} {gE n c dc:Nat} {d:Dv} {A DA:Option Addr}
theorem RpSt.setE(h:RpSt w gE n d A c DA dc wr)(hE:w.heap.size+1<gE):RpSt w gE n d A c DA dc (wr.setCell ⟨gE,0,none⟩ (.int .i64 0)):=by
 refine⟨h.be.set_ 0 _,h.bd.far (p:=⟨gE,0,none⟩) (show w.heap.size≠gE by omega) _,h.br.far (p:=⟨gE,0,none⟩) (show w.heap.size+1≠gE by omega) _,?_,h.len,h.cap,h.ok,h.below.setCell (p:=⟨gE,0,none⟩) (show w.heap.size<=gE by omega) _⟩;rcases h.at_ with a|a
 .exact .inl ⟨a.1.set_ (p:=⟨gE,0,none⟩) (show w.heap.size<=gE by omega) _,a.2.set_ (p:=⟨gE,0,none⟩) (show w.heap.size<=gE by omega) _⟩
 exact .inr ⟨ar a.1 (p:=⟨gE,0,none⟩) (bI a.1 (kjq gE)).symm _,ar a.2 (p:=⟨gE,0,none⟩) (bI a.2 (kjq gE)).symm _⟩
end
theorem vV(B:Option Addr)(l:List En)(u N b n:Nat)(im:List Nat)(dw:List Dw)(f:Int)(d:Bool)(A:Option Addr)(c:Nat)(J:Option Addr)(M:Nat)(w wr:World)(a:RpSt w b n ⟨im,dw,f,d⟩ A c J M wr)(m:l.length=u)(E:u<=64)(h:oU n l)(r:∀e∈l,e.v<18446744073709551616)(R:w.heap.size+1<b)(q:RdE wr wr.heap.size B l):
 Calls prog 127 #[.slice B u N,.pointer (some ⟨b,0,none⟩),.pointer (some ⟨w.heap.size,0,none⟩)] wr λe g=>e=.returned (.tuple #[])/\∃A2 c2 DA2 dc2,RpSt w b n (rpP ⟨im,dw,f,d⟩ l) A2 c2 DA2 dc2 g/\g.ownsRow (b+1) 53 1 (.slice A2 n c2) n ((rpP ⟨im,dw,f,d⟩ l).im.flatMap ap)/\g.ownsRow (b+1) 92 3 (.slice DA2 (rpP ⟨im,dw,f,d⟩ l).dw.length dc2) (rpP ⟨im,dw,f,d⟩ l).dw.length ((rpP ⟨im,dw,f,d⟩ l).dw.flatMap Dw.cells):=by
 obtain⟨t,k⟩:=yq0 a (IY A J B im dw f d n c dw.length M l u N wr a.len rfl a.cap a.ok m E h r (a.at_.rd a.below.size).1 (a.at_.rd a.below.size).2 q);unfold iE at k;obtain⟨j,y⟩:=yq0 (pS a.ok (l:=l) (by rw[a.len];exact h)) ((iB ⟨im,dw,f,d⟩ l).trans a.len);obtain⟨z,i⟩:∃z,rpP ⟨im,dw,f,d⟩ l=z:=⟨_,rfl⟩;rw[i] at k j y |-;rw[y.out] at k;obtain⟨K,O,hge⟩:=a.be.c1;have o:=a.bd;dsimp only at o;have g:=y5 o;clear a m h r q i o;go_enter func127,ntmps127;go_wp2_with (first
  | ((with_reducible refine av 79 (.tmp 2) ?_);refine ldD g.out ?_))
 refine k.out.mono ?_;rintro e S ⟨⟨_,rfl,I,L,h,o,rfl,F,r,s⟩,a⟩;obtain⟨im3,D,H,C⟩:=z;obtain⟨i,m,x,P,Q⟩:=yq3 r s a (g.out.up a g.out.lt) (t.out.be.up a t.out.be.lt);have G:b≠w.heap.size:=(by omega);have q:w.heap.size≠b:=(by omega);clear r s a k K O;dsimp only;go_wp2_with (((with_reducible refine aj 79 (.tmp 2) _ ?_);refine ai rfl _ _ _ rfl w.heap.size 79 _ #[.slice I n L,.slice h D.length o,.int .i64 H,.bool C] (by rfl) (by rfl) P.out rfl gu (by simp[Value.oneCell']) ?_;intro r k a;have O:=y5 k;have s:=y5 a;clear k a;have K:=y5 (s.out.bx Q.out G);obtain⟨u0,uf,-⟩:=K.out.c1));go_end0;have k:Two S (r.setCell ⟨b,0,none⟩ (.int .i64 0)) w.heap.size b:=⟨r,s.out.grown,eZ (vs:=[.int .i64 0]) (eB (kqe r.heap.size r))⟩;have a:b+1<=wr.heap.size:=t.out.be.lt;exact⟨rfl,I,L,h,o,t.out.do_ x.out R i.out m.out F y.out j.out (K.out.set_ 0 (.int .i64 0)) (O.out.far (p:=⟨b,0,none⟩) q _) k,k.own (ab i.out a) (by omega) (by omega),k.own (ab m.out a) (by omega) (by omega)⟩
structure Ran (k:Nat) (d x:Dv):Prop where
 free:d.left = -1->x.left = -1/\x.down=d.down
 few:0<=d.left->(k:Int)<=d.left->x.left=d.left-k/\x.down=d.down
 many:0<=d.left->d.left<k->x.left=0/\x.down=true
structure Cln (d:Dv):Prop where
 ok:fg d=true
 dw:d.dw=[]
theorem Ao:∀(l:List Nat) (a:Int),(lsE a l).length=l.length:=by
 intro l
 induction l with
 | nil=>intro a;rfl
 | cons v l b=>intro a;simp only[lsE,kq4,b]
theorem mrg{F P:Nat->Nat->World->Prop}{Q:Prop}(a:(∀g c w,F g c w->P g c w)->Q)(b:∀g c w,F g c w->P g c w):Q:=a b
theorem EV{l:List En}(a:∀e∈l,e.ok):∀v∈bH l,v<18446744073709551616:=uK a
theorem yf(A O B:Option Addr)(im:List Nat)(dw:List Dw)(o:Int)(j:Bool)(n c m dc:Nat)(l:List En)(y lc:Nat)(w:World)(t:im.length=n)(x:dw.length=m)(hc:n<=c)(g:fg ⟨im,dw,o,j⟩=true)(a:l.length=y)(h0:0<y)(Ky:y<=32)(b:dG (b9 l) (n:Int)=0)(C:wd (dvV ⟨im,dw,o,j⟩) 24=0)(G:oU n l)(H:∀e∈l,e.ok)(R:RdW w w.heap.size A im)(T:RdQ w w.heap.size O dw)(i:RdE w w.heap.size B l):
 Calls prog 82 #[.agg #[.slice A n c,.slice O m dc,.int .i64 o,.bool j],.slice B y lc] w λe f=>(∃u,e=.returned (.tuple #[u,.int .i64 0])/\iE f w.heap.size (atM ⟨im,dw,o,j⟩ l) u)/\Below w.heap.size w f:=by
 have hb:=jn g;dsimp only at hb;rw[t,x] at hb;obtain⟨hb1,hb2,hb3⟩:=hb;have r:l≠[]:=λe=>by rw[e] at a;simp at a;omega
 obtain⟨P,f⟩:=yq0 (wy (d:=⟨im,dw,o,j⟩) r) (λW (h:RdW W W.heap.size A im) (h2:RdQ W W.heap.size O dw)=>qh A O im dw o j n c m dc W t x (by omega) (by omega) h h2);unfold FI at f;rw[iY g] at f;have I:(dvV ⟨im,dw,o,j⟩).length=n:=(iD _).trans t;dsimp only at f;rw[t] at f;have z:=y5 (λW (h:RdE W W.heap.size B l)=>py B l lc y (n:Int) W a (by omega) h H);unfold Am at z;rw[b,show eO l (n:Int)=bH l by simp[eO,b]] at z;have q:(bH l).length=2*y:=by rw[fZ,a]
 rw[q] at z;obtain⟨Q,Kf,Kr,Kg,Kp,Kx,s⟩:=yq5 q (λW (h:RdE W W.heap.size B l)=>Fi B l lc y (n:Int) W a h0 Ky b h H) (λB2 c2 W (h:RdW W W.heap.size B2 (bH l))=>vW B2 (bH l) c2 (2*y) 32 W q (by omega) (by omega) h) (λB2 c2 v W (h:RdW W W.heap.size B2 [v])=>vW B2 [v] c2 1 24 W rfl (by omega) (by omega) h) (Gn (l:=l) (by omega)) (EV H) (λ(W:World) (h:RdW W W.heap.size A im)=>ra A im c n W.heap.size W t (by omega) (by omega) h (kqa _));unfold OwnW at s;rw[t] at s;have L:=y5 (λW (h:RdQ W W.heap.size O dw)=>wB O dw dc m W x (by omega) h);unfold OwnQ at L;rw[x] at L;obtain⟨W0,K,U,V,D,M⟩:=gP w A O o j n c m dc;obtain⟨E,N,J,HI,HQ,HE,HN,HM⟩:=yq6 U V D R T i t x;obtain⟨Kh,Kq,Ko,Kw,Ks,Ku⟩:=yq4 g G C I a (λe i=>(H e i).2.2);have Ke:w.heap.size<=W0.heap.size:=(by omega);have Kz:w.heap.size<W0.heap.size:=(by omega);have La:w.heap.size+1<W0.heap.size:=(by omega);have hl0:((y:Int)==0)=false:=(by rw[kqc];omega);clear R T i U V D M t x g G C I a H b r q;go_enter func82,ntmps82;go_wp2_with (first
  | ((with_reducible refine av 79 (.tmp 2) ?_);refine ldD E.out ?_))
 clear K;refine (f.out W0 (HI.out.up J.out Ke) (HQ.out.up J.out Ke)).mono ?_;rintro e b ⟨⟨t,-⟩,g⟩;obtain⟨gv,cv,rfl,q⟩:=t (by trivial);have Lc:=g.size;have x:w.heap.size+1<b.heap.size:=(by omega);have a:=y5 (show RpSt w b.heap.size n ⟨im,dw,o,j⟩ A c O dc (b.alloc (.cells #[.int .i64 0] 27)) from by
  have C:Below b.heap.size b (b.alloc (.cells #[.int .i64 0] 27)):=(kqe _ _).alloc (kqa _) _;have r:=J.out.trans ((g.trans (C.mono Lc)).mono Ke);refine⟨Bx.new _ _ _,?_,(N.out.up g La).alloc _,.inl ⟨HI.out.below r,HQ.out.below r⟩,HN.out,hc,Kh.out,r⟩;dsimp only;rw[HM.out];exact (E.out.up g Kz).alloc _)
 have H:=y5 (show RdW b b.heap.size (some ⟨gv,0,none⟩) (dvV ⟨im,dw,o,j⟩) from Rd.of_own q);clear t q g f E N;have I:=y5 (show RdW (b.alloc (.cells #[.int .i64 0] 27)) b.heap.size (some ⟨gv,0,none⟩) (dvV ⟨im,dw,o,j⟩) from H.out.alloc (kqa _) _);have hz2:(b.alloc (.cells #[.int .i64 0] 27)).heap.size=b.heap.size+1:=kqm _ _;go_wp2_with fail;refine (z.out _ (HE.out.up a.out.below a.out.below.size)).mono ?_;rintro e w2 ⟨⟨B2,c2,rfl,G⟩,f⟩;obtain⟨r,g,t⟩:=yq1 ((a.out.up f).setE x) ((I.out.below (f.mono (by omega))).set_ (p:=⟨b.heap.size,0,none⟩) (kqa _) (.int .i64 0)) (ab (ar G (p:=⟨b.heap.size,0,none⟩) (bI G (show b.heap.size<(b.alloc (.cells #[.int .i64 0] 27)).heap.size by omega)).symm (.int .i64 0)) (show b.heap.size+1<=(b.alloc (.cells #[.int .i64 0] 27)).heap.size by omega));obtain⟨W2,D⟩:∃W,w2.setCell ⟨b.heap.size,0,none⟩ (.int .i64 0)=W:=⟨_,rfl⟩;rw[D] at r g t;have Kj:Hid (b.heap.size+1<=W2.heap.size):=y5 (by rw[<-D,kxc];have:=f.size;omega);obtain⟨bV,oV,q,hbV,M⟩:=RdW.at_ (l:=dvV ⟨im,dw,o,j⟩) g.out (show 24<(dvV ⟨im,dw,o,j⟩).length by rw[Kw.out];omega);obtain⟨rfl,rfl⟩:gv=bV/\0=oV:=by injection q with q;injection q with h1 h2 h3;exact⟨h1,h2⟩
 rw[<-bY,Ko.out] at M;have K:=y5 (Rd.more g.out (show b.heap.size<=W2.heap.size by have:=Kj.out;omega));obtain⟨U,R,T⟩:=r.out.be.c1;obtain⟨f0,ff0,C⟩:=(a.out.be.up f a.out.be.lt).c1;clear f G a H I q;go_wp2_with fail;obtain⟨q,Kv,Kc⟩:=yq1 (r.out.up ((kqe _ _).drew)) (show RdW W2.drew W2.drew.heap.size _ _ from K.out) (show W2.drew.ownsRow _ _ _ _ _ _ from t.out);have Kd:Hid (b.heap.size+1<=W2.drew.heap.size):=y5 Kj.out;obtain⟨E,a⟩:=xq W2.drew;refine kz4 (S:=λ_=>True) (by kernel_rfl) trivial (λN=>?_);rw[a] at q Kv Kc Kd |-;clear a D U R T f0 ff0 C M r K t g;obtain⟨d0,d1,d2,d3,df0,df1,df2,df3,Lb⟩:=q.out.bd.c4;dsimp only at d1;rw[HM.out] at d1;have Kk:=y5 q.out.below.size;obtain⟨M,Ki⟩:=yq0 ((q.out.at_.rd Kk.out).1) ((q.out.at_.rd Kk.out).2);dsimp only at M Ki;show wpAnyH _ _ _ _ _ 10 _ _ _;refine tj 0 (.pointer (some ⟨w.heap.size,0,none⟩)) ?_;refine tj 3 (.pointer (some ⟨w.heap.size,1,none⟩)) ?_;dsimp only[Act.put,kqr,kqn,kql,kqd,kqk,kqj];refine' mrg (F:=λI G w3=>Hid (Below E.heap.size E w3/\w3.ownsRow E.heap.size 53 1 (.slice (some ⟨I,0,none⟩) n G) n (im.flatMap ap))) ?h1 ?h2
 case h1 =>
  intro H;refine kzr (rs:=[1,4]) (by kernel_rfl) (by simp) ?_;refine AllReadyH.cons rfl (λK f=>?_) (AllReadyH.cons rfl (λK f=>?_) AllReadyH.nil)
  .rw[if_pos (by kernel_rfl)];go_simp;refine f.out _ _ trivial (λN=>?_);clear f K;refine kzr (rs:=[2,4]) (by kernel_rfl) (by simp) ?_;refine AllReadyH.cons rfl (λK f=>?_) (AllReadyH.cons rfl (λK f=>?_) AllReadyH.nil)
   .rw[if_pos (by kernel_rfl)];go_simp;refine (s.out E M.out).mono ?_;rintro e w3 ⟨I,G,rfl,a,g⟩;go_simp;refine f.out _ _ trivial (λN=>?_);clear f K;(try dsimp only[Act.put,kqr,kqn,kql,kqd,kqk,kqj]);have e1:=(g.cell (p:=⟨w.heap.size,1,none⟩) Lb).trans d1;refine kzr (rs:=[4]) (by kernel_rfl) (by simp) ?_;refine AllReadyH.cons rfl (λK f=>?_) AllReadyH.nil;rw[if_pos (by kernel_rfl)];go_simp;refine f.out _ _ trivial (λN=>?_);clear f K;(try dsimp only[Act.put,kqr,kqn,kql,kqd,kqk,kqj]);exact H _ _ _ (y5 ⟨g,a⟩)
   rw[if_pos (by kernel_rfl)];go_simp;refine f.out _ _ trivial (λN=>?_);clear f K;refine kzr (rs:=[2]) (by kernel_rfl) (by simp) ?_;refine AllReadyH.cons rfl (λK f=>?_) AllReadyH.nil;rw[if_pos (by kernel_rfl)];go_simp;refine (s.out E M.out).mono ?_;rintro e w3 ⟨I,G,rfl,a,g⟩;go_simp;refine f.out _ _ trivial (λN=>?_);clear f K;(try dsimp only[Act.put,kqr,kqn,kql,kqd,kqk,kqj]);exact H _ _ _ (y5 ⟨g,a⟩)
  rw[if_pos (by kernel_rfl)];go_simp;refine f.out _ _ trivial (λN=>?_);clear f K;refine kzr (rs:=[1]) (by kernel_rfl) (by simp) ?_;refine AllReadyH.cons rfl (λK f=>?_) AllReadyH.nil;rw[if_pos (by kernel_rfl)];go_simp;refine f.out _ _ trivial (λN=>?_);clear f K;refine kzr (rs:=[2]) (by kernel_rfl) (by simp) ?_;refine AllReadyH.cons rfl (λK f=>?_) AllReadyH.nil;rw[if_pos (by kernel_rfl)];go_simp;refine (s.out E M.out).mono ?_;rintro e w3 ⟨I,G,rfl,a,g⟩;go_simp;refine f.out _ _ trivial (λN=>?_);clear f K;(try dsimp only[Act.put,kqr,kqn,kql,kqd,kqk,kqj]);exact H _ _ _ (y5 ⟨g,a⟩)
 case h2 =>
  intro I G w3 Y;(try dsimp only);obtain⟨g,a⟩:=Y.out;refine tj 6 (.pointer (some ⟨w.heap.size,0,none⟩)) ?_;refine kzr (rs:=[5]) (by kernel_rfl) (by simp) ?_;refine AllReadyH.cons rfl (λK f=>?_) AllReadyH.nil;rw[if_pos (by kernel_rfl)];go_simp;refine (L.out w3 (Ki.out.up g g.size)).mono ?_;rintro e w4 ⟨A5,c5,rfl,D,R⟩;go_simp;refine f.out _ _ trivial (λV=>?_);clear f K;(try dsimp only[Act.put,kqr,kqn,kql,kqd,kqk,kqj]);have r:=g.trans (R.mono g.size);have hz34:=r.size;obtain⟨t,T,U,H⟩:=yq2 (q.out.up r) (ab (ag a R (kqa _)) Kd.out) (ab D (kzu Kd.out g.size)) (ag Kc.out r (kqa _));obtain⟨q0,q1,q2,q3,qf0,qf1,qf2,qf3,Z⟩:=t.out.bd.c4;dsimp only at q1;rw[HM.out] at q1;clear d0 d1 d2 d3 df0 df1 df2 df3 g a D R Y r;refine kzr (rs:=[7]) (by kernel_rfl) (by simp) ?_;refine AllReadyH.cons rfl (λK f=>?_) AllReadyH.nil;rw[if_pos (by kernel_rfl)];go_simp;refine f.out _ _ trivial (λr=>?_);clear f K;(try dsimp only[Act.put,kqr,kqn,kql,kqd,kqk,kqj]);refine tj 8 (.pointer (some ⟨w.heap.size,1,none⟩)) ?_
  dsimp only[Act.put,kqr,kqn,kql,kqd,kqk,kqj];refine kzr (rs:=[9]) (by kernel_rfl) (by simp) ?_;refine AllReadyH.cons rfl (λK f=>?_) AllReadyH.nil;rw[if_pos (by kernel_rfl)];go_simp;refine f.out _ _ trivial (λa=>?_);clear f K N V r a;(try dsimp only[Act.put,kqr,kqn,kql,kqd,kqk,kqj]);refine kx0 (by kernel_rfl) ?_ _;have Y:b.heap.size≠w.heap.size:=(by omega);have f:∀ {sz k:Nat} {e:TypeId} {v:Value} {xs:List Value} {W:World},W.ownsRow (b.heap.size+1) e sz v k xs->v.ownBlock≠some w.heap.size:=λh=>(bI h (show w.heap.size<b.heap.size+1 by omega)).symm;have a:=y5 (show RpSt w b.heap.size n ⟨im,dw,o,j⟩ (some ⟨I,0,none⟩) G A5 c5 ((w4.setCell ⟨w.heap.size,0,none⟩ (.slice (some ⟨I,0,none⟩) n G)).setCell ⟨w.heap.size,1,none⟩ (.slice A5 m c5)) from by
   have h:=t.out.bd;dsimp only at h;rw[HM.out] at h;have g:=T.out;have r:=U.out;refine⟨(t.out.be.far (p:=⟨w.heap.size,0,none⟩) Y _).far (p:=⟨w.heap.size,1,none⟩) Y _,?_,(t.out.br.far (p:=⟨w.heap.size,0,none⟩) (show w.heap.size+1≠w.heap.size by omega) _).far (p:=⟨w.heap.size,1,none⟩) (show w.heap.size+1≠w.heap.size by omega) _,.inr ⟨?_,?_⟩,HN.out,d6 g,Kh.out,(t.out.below.setCell (p:=⟨w.heap.size,0,none⟩) (kqa _) _).setCell (p:=⟨w.heap.size,1,none⟩) (kqa _) _⟩
   .dsimp only;rw[HM.out];exact (h.set_ 0 (.slice (some ⟨I,0,none⟩) n G)).set_ 1 (.slice A5 m c5)
   .exact ar (ar g (p:=⟨w.heap.size,0,none⟩) (f g) _) (p:=⟨w.heap.size,1,none⟩) (f g) _
   dsimp only;rw[HM.out];exact ar (ar r (p:=⟨w.heap.size,0,none⟩) (f r) _) (p:=⟨w.heap.size,1,none⟩) (f r) _)
  have h:=y5 (ar (ar H.out (p:=⟨w.heap.size,0,none⟩) (f H.out) (.slice (some ⟨I,0,none⟩) n G)) (p:=⟨w.heap.size,1,none⟩) (f H.out) (.slice A5 m c5));obtain⟨W5,g⟩:∃W,(w4.setCell ⟨w.heap.size,0,none⟩ (.slice (some ⟨I,0,none⟩) n G)).setCell ⟨w.heap.size,1,none⟩ (.slice A5 m c5)=W:=⟨_,rfl⟩;rw[g] at a h |-;clear g q0 q1 q2 q3 qf0 qf1 qf2 qf3 Z t T U H Kc q;go_wp2_with fail;refine (Kf.out _ (HE.out.up a.out.below a.out.below.size)).mono ?_;rintro e w6 ⟨rfl,g⟩;obtain⟨t,r⟩:=yq0 ((a.out.up g).setE x) (ar (ag h.out g (kqa _)) (p:=⟨b.heap.size,0,none⟩) (bI (ag h.out g (kqa _)) (kjq b.heap.size)).symm (.int .i64 0));obtain⟨f0,ff0,C⟩:=(a.out.be.up g a.out.be.lt).c1;obtain⟨W6,D⟩:∃W,w6.setCell ⟨b.heap.size,0,none⟩ (.int .i64 0)=W:=⟨_,rfl⟩;rw[D] at t r;clear g a h;go_wp2_with fail;have g:=y5 (show RdW W6 W6.heap.size B2 (bH l) from Rd.of_own r.out);clear D f0 ff0 C r;refine (Kr.out _ _ W6 g.out).mono ?_;rintro e w7 ⟨⟨A7,c7,rfl,a⟩,D⟩;obtain⟨r,h⟩:=yq0 (t.out.up D) (show RdE w7 w7.heap.size A7 (lsE 32 (bH l)) from Rd.of_own a);clear a D t g;have HB0':=y5 (J.out)
  obtain⟨V1,V2,V4,V3,Kt,g⟩:=yq4 (show oU n (lsE 32 (bH l))/\∀e∈lsE 32 (bH l),e.v<18446744073709551616 from ⟨λe i=>by have:=vQ (bH l) 32 (n:=n) (by rw[Q.out];omega) e i;omega,Gy _ _ Kx.out⟩) (show oU n [⟨24,cmW l⟩]/\∀e∈([⟨24,cmW l⟩]:List En),e.v<18446744073709551616 from ⟨λe i=>by rw[kq2] at i;subst i;dsimp only;omega,λe i=>by rw[kq2] at i;subst i;exact Kp.out⟩) (show oU n [⟨24,0⟩]/\∀e∈([⟨24,0⟩]:List En),e.v<18446744073709551616 from ⟨λe i=>by rw[kq2] at i;subst i;dsimp only;omega,λe i=>by rw[kq2] at i;subst i;decide⟩) (And.intro Kq.out Ku.out) (show (lsE 32 (bH l)).length=2*y by rw[Ao,Q.out]) P.out;unfold atL at g;simp only[kjz,List.foldl_nil] at g;clear P z Kf s L;go_wp2_with fail;refine (vV _ (lsE 32 (bH l)) (2*y) _ b.heap.size n im dw o j _ _ _ _ w _ r.out Kt.out (by omega) V1.out.1 V1.out.2 x h.out).mono ?_;rintro e w9 ⟨rfl,A9,c9,DA9,dc9,a,-⟩;obtain⟨d9,i⟩:∃d,rpP ⟨im,dw,o,j⟩ (lsE 32 (bH l))=d:=⟨_,rfl⟩;rw[i] at a g;obtain⟨im9,dw9,lf9,dn9⟩:=d9;have H:=y5 a;clear a i r h;have i:=y5 (H.out.alloc (.cells #[.int .u64 ((cmW l:Nat):Int)] 53))
  have h:=y5 (show RdW (w9.alloc (.cells #[.int .u64 ((cmW l:Nat):Int)] 53)) (w9.alloc (.cells #[.int .u64 ((cmW l:Nat):Int)] 53)).heap.size (some ⟨w9.heap.size,0,none⟩) [cmW l] from Rd.of_own (a8 (n:=1) (sz:=1) w9 53 #[.int .u64 ((cmW l:Nat):Int)] (kqa _) (by rfl) (by unfold maxLen;omega)));go_wp2_with fail;refine (Kg.out _ 1 (cmW l) _ h.out).mono ?_;rintro e w10 ⟨⟨A10,c10,rfl,a⟩,D⟩;obtain⟨t,r⟩:=yq0 (i.out.up D) (show RdE w10 w10.heap.size A10 [⟨24,cmW l⟩] from Rd.of_own a);clear a D i h H;go_wp2_with fail;refine (vV _ [⟨24,cmW l⟩] 1 _ b.heap.size n im9 dw9 lf9 dn9 _ _ _ _ w _ t.out rfl (by omega) V2.out.1 V2.out.2 x r.out).mono ?_;rintro e w11 ⟨rfl,A11,c11,DA11,dc11,h,-⟩;obtain⟨d11,i⟩:∃d,rpP ⟨im9,dw9,lf9,dn9⟩ [⟨24,cmW l⟩]=d:=⟨_,rfl⟩;rw[i] at h g;obtain⟨Z,U,Ka,R⟩:=d11;have a:=y5 h;clear h i t r;go_wp2_with fail;refine (vV _ l y _ b.heap.size n Z U Ka R _ _ _ _ w _ a.out Ks.out (by omega) V3.out.1 V3.out.2 x (HE.out.up a.out.below a.out.below.size)).mono ?_;rintro e t ⟨rfl,A12,c12,DA12,dc12,h,-⟩;obtain⟨d12,i⟩:∃d,rpP ⟨Z,U,Ka,R⟩ l=d:=⟨_,rfl⟩;rw[i] at h g;obtain⟨Eq,V,Kb,T⟩:=d12;have r:=y5 h;clear h i a
  obtain⟨i,h⟩:=yq0 (r.out.alloc (.cells #[.int .u64 0] 53)) (show RdW (t.alloc (.cells #[.int .u64 0] 53)) (t.alloc (.cells #[.int .u64 0] 53)).heap.size (some ⟨t.heap.size,0,none⟩) [0] from Rd.of_own (a8 (n:=1) (sz:=1) t 53 #[.int .u64 0] (kqa _) (by rfl) (by unfold maxLen;omega)));go_wp2_with fail;refine (Kg.out _ 1 (0) _ h.out).mono ?_;rintro e w13 ⟨⟨A13,c13,rfl,a⟩,D⟩;obtain⟨K,H⟩:=yq0 (i.out.up D) (show RdE w13 w13.heap.size A13 [⟨24,0⟩] from Rd.of_own a);clear a D i h r;go_wp2_with fail;refine (vV _ [⟨24,0⟩] 1 _ b.heap.size n Eq V Kb T _ _ _ _ w _ K.out rfl (by omega) V4.out.1 V4.out.2 x H.out).mono ?_;rintro e w14 ⟨rfl,A14,c14,D,N,r,h,i⟩;obtain⟨d14,W⟩:∃d,rpP ⟨Eq,V,Kb,T⟩ [⟨24,0⟩]=d:=⟨_,rfl⟩;rw[W] at r g h i;obtain⟨im14,Km,Kn,Kl⟩:=d14;have a:=y5 r;clear r W K H;obtain⟨f0,-,-⟩:=a.out.be.c1;have hd:=a.out.bd;have hl:=a.out.len;dsimp only at hd hl h i;obtain⟨K,W,r,H⟩:=yq2 hd hl h i;clear hd hl h i;go_wp2_with (first
   | ((with_reducible refine av 79 (.tmp 2) ?_);refine ldD K.out ?_)
   | ((with_reducible refine aj 79 (.tmp 4) _ ?_);refine stD a.out.br ?_;intro w99 i h))
  refine kqq (v:=.tuple #[.agg #[.slice A14 n c14,.slice D Km.length N,.int .i64 Kn,.bool Kl],.int .i64 0]) (aF results82 _ i.out rfl rfl rfl) rfl ⟨⟨_,rfl,by
   rw[g.out];unfold iE;dsimp only;rw[W.out];exact⟨A14,c14,D,N,rfl,a.out.cap,ab (ak r.out h.out (by omega)) (by omega),ab (ak H.out h.out (by omega)) (by omega)⟩⟩,h.out.below a.out.below (by omega)⟩
theorem Dk{G:List Nat}(h:d7 G=0):wd G 24=0:=by obtain⟨-,b⟩:=og h;obtain⟨t,a⟩:=Gf b;exact a.z16 24 (by decide) (by decide)
def CoAt (w wr:World) (n:Nat) (d:Dv) (A:Option Addr) (c:Nat) (DA:Option Addr) (dc:Nat):Prop:=
 Bx wr w.heap.size 79 #[.slice A n c,.slice DA d.dw.length dc,.int .i64 d.left,.bool d.down]/\Bx wr (w.heap.size+1) 79 #[.slice none 0 0,.slice none 0 0,.int .i64 0,.bool false]/\n<=c/\d.im.length=n/\Below w.heap.size w wr
def CoGo (w wr:World) (n:Nat) (x0 y:List Nat) (r:Dv × Int) (d:Dv) (A:Option Addr) (c:Nat) (DA:Option Addr) (dc:Nat) (k:Nat) (vx:Value):Prop:=
 ∃E outs B lc,vx=.slice B E.length lc/\outs.length+1<k/\RnAt n x0 y d E outs/\Cg (E::outs) d=r/\RdE wr wr.heap.size B E/\Ej w.heap.size (w.heap.size+2) wr A n c DA d.dw.length dc d.im d.dw
def CoEnd (w wr:World) (n:Nat) (r:Dv × Int) (d:Dv) (A:Option Addr) (c:Nat) (DA:Option Addr) (dc:Nat):Prop:=
 (d,0)=r/\wr.ownsRow (w.heap.size+2) 53 1 (.slice A n c) n (d.im.flatMap ap)/\wr.ownsRow (w.heap.size+2) 92 3 (.slice DA d.dw.length dc) d.dw.length (d.dw.flatMap Dw.cells)
theorem vp(w:World)(H:Nat):iE w H dvZ (.agg #[.slice none 0 0,.slice none 0 0,.int .i64 0,.bool false]):=⟨none,0,none,0,rfl,kqa _,vB _ _ _ _,vB _ _ _ _⟩
theorem IM(A DA:Option Addr)(im:List Nat)(dw:List Dw)(t:Int)(dn:Bool)(n c m dc:Nat)(w:World)(f:im.length=n)(k:dw.length=m)(Ll:n<=9223372036854775807)(hm2:m<=1000000)(hc:n<=c)(d:DvLt ⟨im,dw,t,dn⟩)(o:RdW w w.heap.size A im)(p:RdQ w w.heap.size DA dw):
 Calls prog 37 #[.agg #[.slice A n c,.slice DA m dc,.int .i64 t,.bool dn]] w λe a=>(∃u,e=.returned (.tuple #[u,.int .i64 (coR ⟨im,dw,t,dn⟩).2])/\iE a w.heap.size (coR ⟨im,dw,t,dn⟩).1 u)/\Below w.heap.size w a:=by
 have a:=y5 (λW (h:RdW W W.heap.size A im) (X:RdQ W W.heap.size DA dw)=>qh A DA im dw t dn n c m dc W f k (by omega) (by omega) h X);unfold FI at a;have g:(dvV ⟨im,dw,t,dn⟩).length=n:=(iD _).trans f;dsimp only at a;rw[f] at a;obtain⟨W0,Kk,q,r,b,l⟩:=gP w A DA t dn n c m dc;obtain⟨X0,X1,i,HI,HQ,HN,HM,Le⟩:=yq6 q r b o p f k d;have Lr:=y5 g;have j:w.heap.size<=W0.heap.size:=(by omega);have La:w.heap.size<W0.heap.size:=(by omega);have Kl:w.heap.size+1<W0.heap.size:=(by omega);have Ka:w.heap.size+1≠w.heap.size:=(by omega);clear o p q r b l f k d g;by_cases h0:dZ ⟨im,dw,t,dn⟩=0
 .rw[h0] at a;obtain⟨Lh,Kh⟩:=yq0 (iS h0) h0;clear h0;cases dn with
  | true =>
   have HV:Hid (coR ⟨im,dw,t,true⟩=(dvZ,60)):=y5 (by unfold coR;rw[if_pos Kh.out,if_pos rfl]);rw[HV.out];go_enter func37,ntmps37;go_wp2_with (first
    | ((with_reducible refine av 79 (.tmp 1) ?_);refine ldD X0.out ?_))
   clear Kk;refine (a.out W0 (HI.out.up i.out j) (HQ.out.up i.out j)).mono ?_;rintro e w1 ⟨⟨s,-⟩,d⟩;obtain⟨gv,cv,rfl,-⟩:=s (by trivial);obtain⟨Y0,Y1,x⟩:=yq1 (X0.out.up d La) (X1.out.up d Kl) (i.out.trans (d.mono j));obtain⟨-,-,-,q3,-,-,-,-,hg⟩:=Y0.out.c4;clear s d a;go_wp2_with (first
    | ((with_reducible refine aj 79 (.tmp 2) _ ?_);refine stD Y1.out ?_;intro w9 y f))
   refine kqq (v:=.tuple #[.agg #[.slice none 0 0,.slice none 0 0,.int .i64 0,.bool false],.int .i64 60]) (aF results37 _ y.out rfl rfl rfl) rfl ⟨⟨_,rfl,vp _ _⟩,f.out.below x.out (by omega)⟩
  | false =>
   have C:=y5 (λB O W (Kn:n<=O) (h:RdW W W.heap.size B (dvV ⟨im,dw,t,false⟩))=>AF B (dvV ⟨im,dw,t,false⟩) O n W Lr.out Ll Kn h Le.out.v);unfold ey at C;by_cases l:d7 (dvV ⟨im,dw,t,false⟩)=0
   .rw[l,if_pos rfl] at C;have b:=qF Lh.out Le.out rfl l (Dk l);have HV:=y5 (BG Lh.out rfl l);dsimp only at b;rw[HN.out] at b;obtain⟨ZZ,k⟩:∃Z,cpZ (dvV ⟨im,dw,t,false⟩)=Z:=⟨_,rfl⟩;obtain⟨VV,g⟩:∃Z,dvV ⟨im,dw,t,false⟩=Z:=⟨_,rfl⟩;obtain⟨L,ho⟩:∃L,(rsE (qt (dvV ⟨im,dw,t,false⟩))).2.1=L:=⟨_,rfl⟩;rw[ho,k,g] at b;rw[ho] at HV;have Lq:=y5 b;obtain⟨rr,Kb⟩:∃r,coR ⟨im,dw,t,false⟩=r:=⟨_,rfl⟩;rw[Kb] at HV |-;clear b ho Kb l k g;go_enter func37,ntmps37;go_wp2_with (first
     | ((with_reducible refine av 79 (.tmp 1) ?_);refine ldD X0.out ?_))
    clear Kk;refine (a.out W0 (HI.out.up i.out j) (HQ.out.up i.out j)).mono ?_;rintro e w1 ⟨⟨s,-⟩,d⟩;obtain⟨gv,cv,rfl,o⟩:=s (by trivial);obtain⟨Y0,Y1,x⟩:=yq1 (X0.out.up d La) (X1.out.up d Kl) (i.out.trans (d.mono j));have Kz:=d6 o;have Kx:=y5 (show RdW w1 w1.heap.size _ _ from Rd.of_own o);obtain⟨-,-,-,q3,-,-,-,-,hg⟩:=Y0.out.c4;have Eq:=Y1.out.lt;clear s d a o;go_wp2_with fail;refine (C.out _ _ w1 Kz Kx.out).mono ?_;rintro e w2 ⟨⟨B2,lc2,rfl,b⟩,G⟩;obtain⟨Z0,Z1⟩:=yq0 (Y0.out.up G hg) (Y1.out.up G Eq);have T:=yq7 x G;have Lp:=y5 (show RdE w2 w2.heap.size B2 [⟨16,1⟩] from Rd.of_own b);clear G b q3 C;go_wp2_with fail;go_loopg [6,7] (L.length+2) (λgk g b wr=>∃(d2:Dv) (A2 H:Option Addr) (O J:Nat),Hid (CoAt w wr n d2 A2 O H J)/\((b=.bool false/\Hid (CoGo w wr n VV ZZ rr d2 A2 O H J gk g))\/(b=.bool true/\Hid (CoEnd w wr n rr d2 A2 O H J))))
    case atStart =>
     refine⟨⟨im,dw,t,false⟩,A,DA,c,dc,y5 ⟨?_,Z1.out,hc,HN.out,T.out⟩,.inl ⟨rfl,y5 ⟨[⟨16,1⟩],L,B2,lc2,rfl,by omega,Lq.out,HV.out.symm,Lp.out,.inl ⟨HI.out.below T.out,HQ.out.below T.out⟩⟩⟩⟩;dsimp only;rw[HM.out];exact Z0.out
    obtain⟨d2,A2,H,O,J,Ke,⟨rfl,Ld⟩|⟨rfl,Lc⟩⟩:=hrel
    .obtain ⟨R,K,S,P⟩:=d2;obtain⟨E,B,B3,lc3,rfl,M,b,k,Q,p⟩:=Ld.out;obtain⟨Kw,N⟩:=yq0 b k;obtain⟨ab0,ab1,ac,al,I⟩:=Ke.out;obtain⟨A0,A1,Kg⟩:=yq1 ab0 ab1 I;have U:=(ae _).1 b.size;have z:=b.err;have q:=y5 (yf A2 H B3 R K S P n O K.length J E E.length lc3 wr al rfl ac b.ok rfl b.small.pos b.small.le (b.small.ent b.size) b.w24 b.small.in_ (b.small.eok (by omega)) (p.rd I.size).1 (p.rd I.size).2 Q);unfold iE at q;obtain⟨m1,m2,m3⟩:=b.made;obtain⟨Kr,Lf,D,V,Y⟩:=yq3 m1 m2 m3 (λ(h:B=[])=>(h ▸ b:RnAt n VV ZZ ⟨R,K,S,P⟩ E []).done) (λE2 g (h:B=E2::g)=>(h ▸ b:RnAt n VV ZZ ⟨R,K,S,P⟩ E (E2::g)).step);unfold Cg at N;obtain⟨d3,F⟩:∃d3,atM ⟨R,K,S,P⟩ E=d3:=⟨_,rfl⟩;rw[F] at q Kr Lf D V Y N;rw[D.out] at q;have Ls:=A0.out.lt;have Lk:=A1.out.lt;have Km:=y5 M;dsimp only at A0;clear b k Q p ab0 ab1 ac al I z m1 m2 m3 Ld Ke F M U;obtain⟨p,k,z,dn3⟩:=d3;go_wp2_with (first
      | ((with_reducible refine av 79 (.tmp 1) ?_);refine ldD A0.out ?_))
     refine q.out.mono ?_;rintro e w3 ⟨⟨_,rfl,A3,c3,M,dc3,rfl,Ky,F,Q⟩,b⟩;obtain⟨Ks,Ku⟩:=yq0 (ab F (show w.heap.size+2<=wr.heap.size by omega)) (ab Q (show w.heap.size+2<=wr.heap.size by omega));have U:=yq7 Kg b;obtain⟨C0,C1⟩:=yq0 (A0.out.up b Ls) (A1.out.up b Lk);have Lt:=b.size;clear F Q b q;have X8:=y5 (Bx.new w3 79 #[.slice none 0 0,.slice none 0 0,.int .i64 0,.bool false]);have Lb:w.heap.size≠w3.heap.size:=(by omega);have Kd:=y5 ((kqe w3.heap.size w3).alloc (kqa _) (.cells #[.slice none 0 0,.slice none 0 0,.int .i64 0,.bool false] 79));dsimp only;cases dn3 with
     | true =>
      have F:Hid (rr=(⟨p,k,z,true⟩,60)):=y5 (by rw[<-N.out,if_pos rfl]);clear N V Y Kw Km;go_wp2_with (first
       | (((with_reducible refine aj 79 (.tmp 8) _ ?_);refine stD X8.out ?_;intro w4 U8 Kc);have b:=y5 (Kc.out.below Kd.out (kqa _));have C04:=y5 (C0.out.up b.out C0.out.lt);have C14:=y5 (C1.out.up b.out C1.out.lt);have Ki:=y5 (ag Ks.out b.out (kqa _));have Kj:=y5 (ag Ku.out b.out (kqa _));have Kf:=y5 (U.out.trans (b.out.mono U.out.size)))
       | ((with_reducible refine av 79 (.tmp 8) ?_);refine ldD U8.out ?_)
       | (((with_reducible refine aj 79 (.tmp 1) _ ?_);refine stD C04.out ?_;intro w5 U0 q);obtain⟨s0,s1,s2,s3,sf0,sf1,sf2,sf3,slt⟩:=U0.out.c4)
       | ((with_reducible refine av 79 (.tmp 1) ?_);refine ldD U0.out ?_)
       | ((with_reducible refine aj 79 (.tmp 2) _ ?_);refine stD (q.out.bx C14.out Ka) ?_;intro w9 y f))
      refine kqq (v:=.tuple #[.agg #[.slice A3 n c3,.slice M k.length dc3,.int .i64 z,.bool true],.int .i64 60]) (aF results37 _ y.out rfl rfl rfl) rfl ⟨⟨_,by rw[F.out],by
       rw[F.out];unfold iE;dsimp only;rw[show p.length=n from D.out];exact⟨A3,c3,M,dc3,rfl,Ky,ab (ak (ak Ki.out q.out (by omega)) f.out (by omega)) (by omega),ab (ak (ak Kj.out q.out (by omega)) f.out (by omega)) (by omega)⟩⟩,f.out.below (q.out.below Kf.out (kqa _)) (by omega)⟩
     | false =>
      have F:Hid (rr=Cg B ⟨p,k,z,false⟩):=y5 (by rw[<-N.out,if_neg (by simp)]);have a:=y5 (λW (h:RdW W W.heap.size A3 p) (X:RdQ W W.heap.size M k)=>qh A3 M p k z false n c3 k.length dc3 W D.out rfl (by omega) (by have:=(jn Kr.out).1;dsimp only at this;omega) h X);unfold FI at a;rw[iY Kr.out] at a;have Q:(dvV ⟨p,k,z,false⟩).length=n:=(iD _).trans D.out;dsimp only at a;rw[show p.length=n from D.out] at a;have X:=y5 (λB2 O W (Kn:n<=O) (h:RdW W W.heap.size B2 (dvV ⟨p,k,z,false⟩))=>Iw B2 (dvV ⟨p,k,z,false⟩) O n W Q Ll Kn h Lf.out.v);unfold uo at X;clear N Q;go_wp2_with (first
       | (((with_reducible refine aj 79 (.tmp 8) _ ?_);refine stD X8.out ?_;intro w4 U8 Kc);have b:=y5 (Kc.out.below Kd.out (kqa _));have C04:=y5 (C0.out.up b.out C0.out.lt);have C14:=y5 (C1.out.up b.out C1.out.lt);have Ki:=y5 (ag Ks.out b.out (kqa _));have Kj:=y5 (ag Ku.out b.out (kqa _));have Kf:=y5 (U.out.trans (b.out.mono U.out.size)))
       | ((with_reducible refine av 79 (.tmp 8) ?_);refine ldD U8.out ?_)
       | (((with_reducible refine aj 79 (.tmp 1) _ ?_);refine stD C04.out ?_;intro w5 U0 q);obtain⟨s0,s1,s2,s3,sf0,sf1,sf2,sf3,slt⟩:=U0.out.c4)
       | ((with_reducible refine av 79 (.tmp 1) ?_);refine ldD U0.out ?_))
      obtain⟨Kt,Kv,C15,Kq⟩:=yq2 (ak Ki.out q.out (show w.heap.size<w.heap.size+2 by omega)) (ak Kj.out q.out (show w.heap.size<w.heap.size+2 by omega)) (q.out.bx C14.out Ka) (q.out.below Kf.out (kqa _));have Ln:=U0.out.lt;have Ko:=C15.out.lt;clear s0 s1 s2 s3 sf0 sf1 sf2 sf3 slt U8 Kc b q Ki Kj C14 C04 Kf Ks Ku C0 C1 U Lb Lt;refine (a.out w5 (Rd.of_own Kt.out) (Rd.of_own Kv.out)).mono ?_;rintro e w6 ⟨⟨Lm,-⟩,Q⟩;obtain⟨gv6,cv6,rfl,h⟩:=Lm (by trivial);have Kn:=d6 h;obtain⟨Lj,Lg,Li,D06,D16⟩:=yq3 (show RdW w6 w6.heap.size _ _ from Rd.of_own h) (ag Kt.out Q (kqa _)) (ag Kv.out Q (kqa _)) (U0.out.up Q Ln) (C15.out.up Q Ko);have W:=yq7 Kq Q;have Lo:=D06.out.lt;have Kp:=D16.out.lt;clear Lm h Q a Kt Kv U0 C15 Kq Ln Ko;have Q:=Km.out;cases B with
      | nil =>
       have h:=V.out (by trivial) (by trivial);rw[h] at X;clear h V Y Kw;go_wp2_with fail;refine (X.out _ _ w6 Kn Lj.out).mono ?_;rintro e w7 ⟨⟨A7,c7,rfl,-⟩,b⟩;obtain⟨Kf,Ki,q,D17⟩:=yq2 (ag Lg.out b (kqa _)) (ag Li.out b (kqa _)) (D06.out.up b Lo) (D16.out.up b Kp);have Kc:=yq7 W b;clear b;go_wp2;go_roundg 1
       case rel=>exact⟨⟨p,k,z,false⟩,A3,M,c3,dc3,y5 ⟨q.out,D17.out,Ky,D.out,Kc.out⟩,.inr ⟨rfl,y5 ⟨F.out.symm,Kf.out,Ki.out⟩⟩⟩
       case measure=>simp only[kxd] at Q;omega
      | cons E2 g =>
       have h:=Y.out E2 g (by trivial) (by trivial);rw[h.1] at X;have Kj:=y5 h.2;clear h V Y Kw;go_wp2_with fail;refine (X.out _ _ w6 Kn Lj.out).mono ?_;rintro e w7 ⟨⟨A7,c7,rfl,h⟩,b⟩;obtain⟨Ko,Kf,Ki,q,D17⟩:=yq3 (show RdE w7 w7.heap.size A7 E2 from Rd.of_own h) (ag Lg.out b (kqa _)) (ag Li.out b (kqa _)) (D06.out.up b Lo) (D16.out.up b Kp);have Kc:=yq7 W b;clear b h;go_wp2;go_roundg (g.length+2)
       case rel=>exact⟨⟨p,k,z,false⟩,A3,M,c3,dc3,y5 ⟨q.out,D17.out,Ky,D.out,Kc.out⟩,.inl ⟨rfl,y5 ⟨E2,g,A7,c7,rfl,by omega,Kj.out,F.out.symm,Ko.out,.inr ⟨Kf.out,Ki.out⟩⟩⟩⟩
       case measure=>simp only[kq4] at Q;omega
    obtain⟨R,K,S,P⟩:=d2;obtain⟨ab0,ab1,ac,al,I⟩:=Ke.out;obtain⟨Kb,ho,g⟩:=Lc.out;obtain⟨A0,A1,Kg,h,b,F⟩:=yq4 ab0 ab1 I ho g Kb;dsimp only at A0;have Kd:=y5 al;clear ab0 ab1 al I Kb ho g Ke Lc;go_wp2_with (first
     | ((with_reducible refine av 79 (.tmp 1) ?_);refine ldD A0.out ?_)
     | ((with_reducible refine aj 79 (.tmp 2) _ ?_);refine stD A1.out ?_;intro w9 y f))
    refine kqq (v:=.tuple #[.agg #[.slice A2 n O,.slice H K.length J,.int .i64 S,.bool P],.int .i64 0]) (aF results37 _ y.out rfl rfl rfl) rfl ⟨⟨_,by rw[<-F.out],by
     rw[<-F.out];unfold iE;dsimp only;rw[show R.length=n from Kd.out];exact⟨A2,O,H,J,rfl,ac,ab (ak h.out f.out (by omega)) (by omega),ab (ak b.out f.out (by omega)) (by omega)⟩⟩,f.out.below Kg.out (by omega)⟩
   have g:=y5 l;rw[if_neg l] at C;have HV:Hid (coR ⟨im,dw,t,false⟩=(dvZ,d7 (dvV ⟨im,dw,t,false⟩))):=y5 (by unfold coR;rw[if_pos Kh.out,if_neg (by simp),if_neg l]);obtain⟨r,b⟩:∃r,d7 (dvV ⟨im,dw,t,false⟩)=r:=⟨_,rfl⟩;rw[b] at C HV l;rw[HV.out];have e1:(r != 0)=true:=by rw[kqx];exact l
   clear b l g;go_enter func37,ntmps37;go_wp2_with (first
    | ((with_reducible refine av 79 (.tmp 1) ?_);refine ldD X0.out ?_))
   clear Kk;refine (a.out W0 (HI.out.up i.out j) (HQ.out.up i.out j)).mono ?_;rintro e w1 ⟨⟨s,-⟩,d⟩;obtain⟨gv,cv,rfl,o⟩:=s (by trivial);obtain⟨Y0,Y1,x⟩:=yq1 (X0.out.up d La) (X1.out.up d Kl) (i.out.trans (d.mono j));have Kz:=d6 o;have Kx:=y5 (show RdW w1 w1.heap.size _ _ from Rd.of_own o);obtain⟨-,-,-,q3,-,-,-,-,hg⟩:=Y0.out.c4;have Eq:=Y1.out.lt;clear s d a o;go_wp2_with fail;refine (C.out _ _ w1 Kz Kx.out).mono ?_;rintro e w2 ⟨⟨B2,lc2,rfl,-⟩,G⟩;have Z1:=y5 (Y1.out.up G Eq);have T:=yq7 x G;clear G q3 C;go_wp2_with (first
    | ((with_reducible refine aj 79 (.tmp 2) _ ?_);refine stD Z1.out ?_;intro w9 y f))
   refine kqq (v:=.tuple #[.agg #[.slice none 0 0,.slice none 0 0,.int .i64 0,.bool false],.int .i64 r]) (aF results37 _ y.out rfl rfl rfl) rfl ⟨⟨_,rfl,vp _ _⟩,f.out.below T.out (by omega)⟩
 have Kh:=y5 (tq h0);have HV:Hid (coR ⟨im,dw,t,dn⟩=(dvZ,8)):=y5 (by unfold coR;rw[if_neg h0]);rw[Kh.out] at a;rw[HV.out];clear h0;go_enter func37,ntmps37;go_wp2_with (first
  | ((with_reducible refine av 79 (.tmp 1) ?_);refine ldD X0.out ?_))
 clear Kk;refine (a.out W0 (HI.out.up i.out j) (HQ.out.up i.out j)).mono ?_;rintro e w1 ⟨⟨-,s⟩,d⟩;obtain rfl:=s (by decide);obtain⟨Y1,x⟩:=yq0 (X1.out.up d Kl) (i.out.trans (d.mono j));clear d a;go_wp2_with (first
  | ((with_reducible refine aj 79 (.tmp 2) _ ?_);refine stD Y1.out ?_;intro w9 y f))
 refine kqq (v:=.tuple #[.agg #[.slice none 0 0,.slice none 0 0,.int .i64 0,.bool false],.int .i64 8]) (aF results37 _ y.out rfl rfl rfl) rfl ⟨⟨_,rfl,vp _ _⟩,f.out.below x.out (by omega)⟩
end Go.Proofs.YtpcajamacpbjcaaGreat
