/- Texts laid together: Knd KndW KndR Mrk Mrk2 Fwt Fww. -/
import Derived.Test.YtpcajamacpbjcaaGreatZKPlain
import Derived.Test.YtpcajamacpbjcaaGreatZKHead
import Derived.Deep.RegionHeld3
import Derived.Deep.DrawnRows
import Derived.Test.YtpcajamacpbjcaaGreatZKPlace
set_option maxHeartbeats 16000000
set_option maxRecDepth 100000
set_option linter.all false
namespace Go.Proofs.YtpcajamacpbjcaaGreat
open Lib (hid)
open Go.RowKit
variable {r s:Int}{l:List Bk}{ws:List Nat}{H a b k:Nat}{v:Value}{w':World}
open Go.Proofs.Tryz
def bi (x:Nat):List Value:=[.int .u8 (x:Int)]
theorem pC(x:Nat):(bi x).length=1:=rfl
def RdY (w:World) (B:Nat) (A:Option Addr) (l:List Nat):Prop:=Rd w B A (l.flatMap bi)
theorem RdY.at_{w:World}{B:Nat}{A:Option Addr}{l:List Nat}(h:RdY w B A l)(hk:k<l.length):
 ∃b a,A=some ⟨b,a,none⟩/\b<B/\w.cell? ⟨b,a+k,none⟩=some (.int .u8 (l[k]:Int)):=by obtain⟨b,a,e,c,d⟩:=Rd.at_flat pC h (by omega) hk;have:=d 0 (by omega);simp only[kxo,kz8] at this;exact⟨b,a,e,c,this⟩
theorem vG{l:List Nat}(hk:k<l.length)(h:dE (l.take k)=true)(h1:1<=l[k])(h2:l[k]<=3):dE (l.take (k+1))=true:=by
 rw[kqo hk];rw[cU] at h |-;intro x a;rw[kz1] at a;rcases a with a|a
 .exact h x a
 simp only[kqx,kzf,or_false] at a;subst a;exact⟨h1,h2⟩
theorem t7(A:Option Addr)(l:List Nat)(c n B:Nat)(w:World)(hn:l.length=n)(hm:n<=9223372036854775807)(hr:RdY w B A l):
 Calls prog 118 #[.slice A n c] w λe w'=>e=.returned (.int .i64 (cY l))/\w=w':=by
 subst hn;have v:=hid hr;clear hr;by_cases o:8<l.length
 .have y:=hid (sW o);go_enter func118,ntmps118;go_wp2;go_ret;exact⟨by rw[y.out];rfl,rfl⟩
 have d:l.length<=8:=by omega
 have q:Hid (dE l=false->cY l=8):=hid λh=>lK d h;have z:Hid (dE l=true->cY l=0):=hid λh=>ju d h;clear o;go_enter func118,ntmps118;go_wp2_with fail
 go_loop [10] (λi=>∃k:Nat,k<=l.length/\i=.int .i64 k/\Hid (dE (l.take k)=true)) (λi=>l.length-(intOf i).toNat)
 case atStart=>exact⟨0,kqy _,rfl,rfl⟩
 obtain⟨k,hk,rfl,m⟩:=hrel;by_cases a:k<l.length
 .obtain ⟨b,off,rfl,hb,u⟩:=v.out.at_ a;have p:=hid (λf g=>vG a m.out f g);have j:=hid (λh=>AQ a h);obtain⟨x,r⟩:=xq (l[k]);rw[r] at u p j;clear r;by_cases f:x<1
  .have E:=hid (q.out (j.out (.inl f)));go_wp2;go_ret;exact⟨by rw[E.out];rfl,rfl⟩
  by_cases g:3<x
  .have E:=hid (q.out (j.out (.inr g)));go_wp2;go_ret;exact⟨by rw[E.out];rfl,rfl⟩
  have t:1<=x:=by omega
  have s:x<=3:=by omega
  clear f g;go_wp2_with fail
  go_round
  case rel=>exact⟨k+1,by omega,by go_num,p.out t s⟩
  case measure=>simp[intOf];omega
 have E:=hid (z.out (by have:=m.out;rwa [kq5 (by omega)] at this));go_wp2;go_ret;exact⟨by rw[E.out];rfl,rfl⟩
def kSz (l:List Nat):Nat:=if cY l=0 then aY l.length else 0
theorem sj(A:Option Addr)(l:List Nat)(c n B:Nat)(w:World)(hn:l.length=n)(hm:n<=9223372036854775807)(hr:RdY w B A l):
 Calls prog 158 #[.slice A n c] w λe w'=>e=.returned (.tuple #[.int .i64 (kSz l:Nat),.int .i64 (cY l)])/\w=w':=by
 have d:=hid (t7 A l c n B w hn hm hr);clear hr;by_cases a:cY l=0
 .have h:=(kf a).1;have b:=hid (show ((kSz l:Nat):Int)=2+((n:Int)+1)/2*2 by simp only[kSz,a,if_true,aY,hn];omega);rw[hn] at h;rw[a] at d;have f:=hid a;clear a hn;go_enter func158,ntmps158;go_wp2_with fail;refine d.out.mono ?_;rintro e g ⟨rfl,rfl⟩;go_wp2;go_ret2;exact⟨by rw[b.out,f.out];rfl,rfl⟩
 have b:=hid (show kSz l=0 by simp[kSz,a]);have hne:(cY l != 0)=true:=by rw[kqv];exact a
 clear a hn;go_enter func158,ntmps158;go_wp2_with fail;refine d.out.mono ?_;rintro e g ⟨rfl,rfl⟩;go_wp2;go_ret2;exact⟨by rw[b.out];rfl,rfl⟩
def yL (a b:Nat):Value:=.agg #[.int .u64 (a:Int),.int .u64 (b:Int)]
def kwV (l:List Nat):Value:=if cY l=0 then yL (gV l) (gM (gV l)) else yL 0 0
def fw (l:List Nat) (k:Nat):Nat:=l.length+mz (l.take k) 4
theorem ke{fn:Func}{p q:Tmp}(h:fn.results=#[.cell p 157,.tmp q])(tmps:Array Value){W:World}{g:Nat}{t:TypeId}{v0 v1 u:Value}(hb:Bx W g t #[v0,v1])(hp:tmps.getD p undef=.pointer (some ⟨g,0,none⟩))(hq:tmps.getD q undef=u):
 (results fn tmps).run prog W=.ok (.tuple #[.agg #[v0,v1],u]) W:=by obtain⟨a,b,-⟩:=hb.c2;rw[kxq] at hp hq;simp[results,h,hp,hq,go_sem,a,b]
theorem fw_lt{l:List Nat}(h:l.length<=8)(hk:dE l=true)(k:Nat):fw l k<4 ^ (4+k):=by
 have h1:=s6 (l.take k) 4 (λx a=>((cU l).1 hk x (kxt a)).2);have h2:4 ^ (4+(l.take k).length)<=4 ^ (4+k):=kx9 (by omega) (by rw[kq3];omega);have h4:(4:Nat) ^ 4=256:=by decide
 unfold fw;omega
theorem Ij{l:List Nat}{x:Nat}(h:l.length<=8)(hk:dE l=true)(hlt:k<l.length)(hx:l[k]=x):
 bits BinOp.or .u64 (fw l k:Nat) (IntKind.u64.wrap ((x:Int)*2 ^ (8+2*k)))=((fw l (k+1):Nat):Int):=by
 have b:x<=3:=by rw[<-hx];exact ((cU l).1 hk l[k] (kqp hlt)).2
 have e:=fw_lt h hk k;have a:(2:Nat) ^ (8+2*k)=4 ^ (4+k):=by rw[show 8+2*k=2*(4+k) by omega,Nat.pow_mul]
 have hp:(4:Nat) ^ (4+k)<=4 ^ 11:=kx9 (by omega) (by omega);have h11:(4:Nat) ^ 11=4194304:=by decide
 have hb:x*2 ^ (8+2*k)<=3*4194304:=by rw[a];exact kz5 (kxs _ b) (by omega)
 have c:(x:Int)*2 ^ (8+2*k)=((x*2 ^ (8+2*k):Nat):Int):=by simp
 rw[c,kzt _ (by omega),u64_or_nat _ _ (by omega) (by omega),jZ (by rw[a];exact e)];have d:fw l (k+1)=fw l k+x*4 ^ (4+k):=by unfold fw;rw[kqo hlt,ny,hx,kq3,kxc (by omega)];simp only[mz];omega
 rw[d,a]
theorem fw_end(l:List Nat):fw l l.length=gV l:=by unfold fw gV;rw[kzn]
theorem ux(A:Option Addr)(l:List Nat)(c n:Nat)(w:World)(hn:l.length=n)(hm:n<=9223372036854775807)(hr:RdY w w.heap.size A l):
 Calls prog 175 #[.slice A n c] w λe w'=>e=.returned (.tuple #[kwV l,.int .i64 (cY l)])/\Below w.heap.size w w':=by
 subst hn;have T:=hid hr;have H:=Bx.new w 157 #[.int .u64 0,.int .u64 0];have J:=hid (t7 A l c l.length w.heap.size (w.alloc (.cells #[.int .u64 0,.int .u64 0] 157)) rfl hm (hr.alloc (kqd _) _));by_cases a:cY l=0
 .have G:=kf a;obtain⟨t,C⟩:=G;have h:=hid C;have j:=hid (show kwV l=.agg #[.int .u64 (gV l:Nat),.int .u64 (gM (gV l):Nat)] by simp[kwV,a,yL]);have U:=hid a;rw[a] at J;have I:=hid H;clear a C H hr;go_enter func175,ntmps175;go_wp2_with fail;refine J.out.mono ?_;rintro e R ⟨rfl,rfl⟩;go_wp2_with fail
  go_loop [5,21] (λs i=>∃k:Nat,k<=l.length/\i=.int .i64 k/\s=.int .u64 (fw l k:Nat)) (λ_ i=>l.length-(intOf i).toNat)
  case atStart=>exact⟨0,kqy _,rfl,by simp[fw,mz]⟩
  obtain⟨k,hk,rfl,rfl⟩:=hrel;by_cases f:k<l.length
  .obtain ⟨b,P,rfl,S,a⟩:=T.out.at_ f;replace a:=(kzi w (.cells #[.int .u64 0,.int .u64 0] 157) ⟨b,P+k,none⟩ S).trans a;obtain⟨x,F⟩:=xq (l[k]);have hx3:x<=3:=by rw[<-F];exact ((cU l).1 h.out l[k] (kqp f)).2
   have D:=hid (Ij t h.out f F);obtain⟨q,E⟩:=xq (fw l k);rw[F] at a;rw[E] at D |-;clear F E;go_wp2_with fail
   go_round
   case rel=>exact⟨k+1,by omega,by go_num,by rw[D.out]⟩
   case measure=>simp[intOf];omega
  obtain rfl:k=l.length:=by omega
  have u:=yh t h.out;have r:Hid (aS 14695981039346656037 [gV l]=gM (gV l)):=hid rfl;rw[fw_end];obtain⟨q,E⟩:=xq (gV l);rw[E] at u j r |-;have K:(prog.info? 157).map (·.size)=some 2:=by kernel_rfl
  clear E;go_wp2_with fail;have g:=mW (w.alloc (.cells #[.int .u64 0,.int .u64 0] 157)) [.int .u64 (q:Int)] 53;refine (qj _ [q] _ 1 _ rfl (by omega) (by simp only[kqm] at g |-;exact g) (by intro y Q;simp at Q;subst Q;omega)).mono ?_;rintro e R ⟨rfl,d⟩;rw[kqm,kqm] at d;have B:=(((kql _ _).alloc (kqd _) (.cells #[.int .u64 0,.int .u64 0] 157)).alloc (by simp) (.cells #[.int .u64 (q:Int)] 53)).trans (d.mono (by omega));have o:=(I.out.alloc (.cells #[.int .u64 (q:Int)] 53)).up d (by omega);have N:=hid o;have O:=hid B;rw[r.out];obtain⟨z,G⟩:=xq (gM q);rw[G] at j |-;clear G o B d g;go_wp2_with ((with_reducible refine aq 157 (.tmp 2) _ ?_);refine ak rfl _ _ _ rfl w.heap.size 157 #[.int .u64 0,.int .u64 0] #[.int .u64 (q:Int),.int .u64 (z:Int)] (by rfl) (by rfl) N.out rfl K (by simp[Value.oneCell']) ?_;intro w3 m p;have L:=hid m;have M:=hid p;clear m p);exact kqr (v:=.tuple #[.agg #[.int .u64 (q:Int),.int .u64 (z:Int)],.int .i64 0]) (ke results175 _ L.out rfl rfl) rfl ⟨by rw[j.out,U.out],M.out.below O.out (kqd _)⟩
 have j:=hid (show kwV l=.agg #[.int .u64 0,.int .u64 0] by simp[kwV,a,yL]);have hne:(cY l != 0)=true:=by rw[kqv];exact a
 have I:=hid H;clear a H hr;go_enter func175,ntmps175;go_wp2_with fail;refine J.out.mono ?_;rintro e R ⟨rfl,rfl⟩;go_wp2_with fail;exact kqr (v:=.tuple #[.agg #[.int .u64 0,.int .u64 0],.int .i64 (cY l)]) (ke results175 _ I.out rfl rfl) rfl ⟨by rw[j.out],(kql _ _).alloc (kqd _) _⟩
def a8 (a b:Nat):List Nat:=if ch a b=true then dl a else []
def eJ (a b:Nat):Int:=if ch a b=true then 0 else 50
def C4 (a b:Nat) (e:Ending) (w':World):Prop:=∃A c,e=.returned (.tuple #[.slice A (a8 a b).length c,.int .i64 (eJ a b)])/\RdY w' w'.heap.size A (a8 a b)/\(a8 a b).length<=c
theorem mm(h:ch a b=false):C4 a b (.returned (.tuple #[.slice none 0 0,.int .i64 50])) w':=by
 have c:a8 a b=[]:=by simp[a8,h]
 have d:eJ a b=50:=by simp[eJ,h]
 exact⟨none,0,by rw[c,d];rfl,by rw[c];exact Rd.nil_,by rw[c];simp⟩
theorem z7(h0:ch a b=true)(h:w'.ownsRow H 5 1 v (dl a).length ((dl a).flatMap bi)):C4 a b (.returned (.tuple #[v,.int .i64 0])) w':=by
 have f:a8 a b=dl a:=by simp[a8,h0]
 have j:eJ a b=0:=by simp[eJ,h0]
 have i:∃A c,v=.slice A (dl a).length c/\(dl a).length<=c:=by
  rcases h.2 with⟨rfl,e⟩|⟨g,cap,cur,rfl,_,_,d,_⟩
  .exact ⟨none,0,by rw[e],by omega⟩
  exact⟨_,_,rfl,d⟩
 obtain⟨A,c,rfl,d⟩:=i;exact⟨A,c,by rw[f,j],by rw[f];exact Rd.of_own h,by rw[f];exact d⟩
theorem j9(a b:Nat):ch a b=((decide (a%256<=8)&&dE (dl a))&&(gV (dl a)==a&&gM a==b)):=rfl
theorem uB(a k:Nat)(ha:a<18446744073709551616):bits BinOp.and .u64 ((a:Int)/2 ^ (8+2*k)) 3=((a/4 ^ (k+4)%4:Nat):Int):=by
 have c:(2:Nat) ^ (8+2*k)=4 ^ (k+4):=by rw[show 8+2*k=2*(k+4) by omega,Nat.pow_mul]
 have b:(a:Int)/2 ^ (8+2*k)=((a/4 ^ (k+4):Nat):Int):=by rw[<-c];simp
 have h:a/4 ^ (k+4)<18446744073709551616:=kkc (kku _ _) ha;rw[b];exact tf (k:=2) (m:=3) h (by decide) (by omega)
theorem o0(p q a b:Int)(W:World):(Op.equalIn 10000 157 (.agg #[.int .u64 p,.int .u64 q]) (.agg #[.int .u64 a,.int .u64 b])).run prog W=.ok (p==a&&q==b) W:=by have h:=underlying157;have d:=underlying53;have c:(Op.equalIn 10000 157 (.agg #[.int .u64 p,.int .u64 q]) (.agg #[.int .u64 a,.int .u64 b]))=(Op.equalIn (9999+1) 157 (.agg #[.int .u64 p,.int .u64 q]) (.agg #[.int .u64 a,.int .u64 b])):=rfl;have e:List.range' 0 2=[0,1]:=rfl;have e1:=λ(x y:Int)=>run_equalIn_int W 9998 53 .u64 .u64 x y d;rw[c];unfold Op.equalIn;simp[go_sem,run_underlying h,Sem.run_bind,e,List.forIn_cons];by_cases g:p=a<;>by_cases f:q=b<;>simp[g,f,go_sem]
theorem pA(a b:Nat)(w:World)(ha:a<18446744073709551616)(hb:b<18446744073709551616):
 Calls prog 117 #[.int .u64 (a:Int),.int .u64 (b:Int)] w λe w'=>C4 a b e w'/\Below w.heap.size w w':=by
 have J:=hid (j9 a b);have ha0:(0:Int)<=(a:Int):=by omega
 have e1:=(th a ha).1;have n:=hid (eY a);have D:=hid (λk h=>pW a k h);have T:=hid (λk=>uB a k ha);have X:a%256<256:=kz0 _ (by omega);obtain⟨m,A⟩:=xq (a%256);rw[A] at e1 n D J X;by_cases h8:8<m
 .have Y:=hid (show ch a b=false by rw[J.out,show decide (m<=8)=false by rw[kqh];omega];rfl);clear A ha hb;go_enter func117,ntmps117;go_wp2;go_ret2;exact⟨mm Y.out,kql _ _⟩
 have C:m<=8:=by omega
 rw[show decide (m<=8)=true by rw[kqn];exact C] at J;have hx0:(0:Int)<=(m:Int):=by omega
 have HA:=hid ha;have Y:=hid hb;have d8:decide ((8:Int)<(m:Int))=false:=by rw[kqh];omega
 clear A ha hb h8 X;obtain⟨i0,Z,B,G,K⟩:=kzv kT;have HI:=hid Z;have P:=hid B;have S:=hid G;have R:=hid K;clear Z B G K;go_enter func117,ntmps117;go_wp2_with fail;go_loopw [7,16] (λv i wr=>∃k:Nat,k<=m/\i=.int .u64 k/\wr.ownsRow w.heap.size 5 1 v k (((dl a).take k).flatMap bi)/\Below w.heap.size w wr) (λ_ i _=>m-(intOf i).toNat)
 case atStart=>exact⟨0,kqy _,rfl,kq8 _ _ _ _,kql _ _⟩
 obtain⟨k,hk,rfl,c,y⟩:=hrel;have N:=y.size;by_cases E:k<m
 .have Q:=T.out k;have L:=D.out k E;obtain⟨x,V⟩:=xq (a/4 ^ (k+4)%4);have hx3:x<4:=by rw[<-V];exact kz0 _ (by omega)
  rw[V] at Q L;have F:=hid (show ((dl a).take (k+1)).flatMap bi=((dl a).take k).flatMap bi++[.int .u8 (x:Int)] by
   have W:k<(dl a).length:=by rw[n.out];exact E
   rw[kqo W,ce];rw[kqk W] at L;rw[Option.some.inj L];rfl)
  have hxi:(x:Int)<4:=by omega
  have hx00:(0:Int)<=(x:Int):=by omega
  have hki:(k:Int)<(m:Int):=by omega
  clear V L;go_wp2_with (at_builtin;refine kzd _ rfl _ _ 113 rfl w.heap.size 5 i0 _ 1 1 underlying113 HI.out P.out S.out R.out rfl (by decide) _ _ _ rfl (c.alloc _) ⟨_,0,none⟩ 1 1 [.int .u8 (x:Int)] rfl rfl (cC _ _ _) (by simp[Value.oneCell']) (by unfold maxLen;omega) (by omega) (cB y.size) ?_;intro v1 M j U _;have f:=aC y y.size c U);go_roundw
  case rel=>exact⟨k+1,by omega,by go_num,by rw[F.out];exact j,f⟩
  case measure=>simp[intOf];omega
 obtain rfl:k=m:=by omega
 rw[kq5 (by rw[n.out];exact kqd _)] at c;obtain⟨A1,c1,rfl⟩:=aJ c;have z:=hid (ux A1 (dl a) c1 k wr n.out (by omega) (Rd.of_own c));have g:(dl a).length<=8:=by rw[n.out];exact C
 cases l:dE (dl a)
 .have r:=hid (lK g l);have I:=hid (show ch a b=false by rw[J.out,l];rfl);have O:=hid (show kwV (dl a)=.agg #[.int .u64 0,.int .u64 0] by simp[kwV,r.out,yL]);rw[r.out,O.out] at z;clear l g c;go_wp2_with fail;refine z.out.mono ?_;rintro e M ⟨rfl,f⟩;have d:=y.trans (f.mono N);go_wp2;go_ret2;exact⟨mm I.out,d.alloc d.size _⟩
 have r:=hid (ju g l);have O:=hid (show kwV (dl a)=.agg #[.int .u64 (gV (dl a):Nat),.int .u64 (gM (gV (dl a)):Nat)] by simp[kwV,r.out,yL]);have u:=hid (show ch a b=(gV (dl a)==a&&gM (gV (dl a))==b) by
  rw[J.out,l];by_cases h:gV (dl a)=a
  .rw[h];simp
  rw[show (gV (dl a)==a)=false by rw[kqi];exact h];simp only[kxw,kj2])
 rw[r.out,O.out] at z;obtain⟨p,hp⟩:=xq (gV (dl a));obtain⟨q,hq⟩:=xq (gM p);rw[hp,hq] at z u;clear l g hp hq;by_cases s:p=a
 .by_cases t:q=b
  .have HY:=hid (show ch a b=true by rw[u.out,s,t];simp);have o:=o0 p q a b;rw[show ((p:Int)==(a:Int))=true by rw[kqw];omega,show ((q:Int)==(b:Int))=true by rw[kqw];omega,Bool.and_self] at o;clear s t;go_wp2_with fail;refine z.out.mono ?_;rintro e M ⟨rfl,f⟩;have d:=y.trans (f.mono N);have j:=ai c f (kqd _);go_wp2;go_ret2;refine⟨z7 HY.out (H:=w.heap.size) ?_,d.alloc d.size _⟩;rw[n.out];exact j.alloc _
  have I:=hid (show ch a b=false by rw[u.out,show (q==b)=false by rw[kqi];exact t,kj2]);have o:=o0 p q a b;rw[show ((q:Int)==(b:Int))=false by rw[kqi];omega,kj2] at o;clear s t c;go_wp2_with fail;refine z.out.mono ?_;rintro e M ⟨rfl,f⟩;have d:=y.trans (f.mono N);go_wp2;go_ret2;exact⟨mm I.out,d.alloc d.size _⟩
 have I:=hid (show ch a b=false by rw[u.out,show (p==a)=false by rw[kqi];exact s,kxw]);have o:=o0 p q a b;rw[show ((p:Int)==(a:Int))=false by rw[kqi];omega,kxw] at o;clear s c;go_wp2_with fail;refine z.out.mono ?_;rintro e M ⟨rfl,f⟩;have d:=y.trans (f.mono N);go_wp2;go_ret2;exact⟨mm I.out,d.alloc d.size _⟩
def FlRes (a b:Nat) (e:Ending) (w':World):Prop:=∃A c,e=.returned (.tuple #[.slice A (a8 a b).length c,.bool (ch a b)])/\RdY w' w'.heap.size A (a8 a b)/\(a8 a b).length<=c
theorem mF(a b:Nat):(eJ a b==0)=ch a b:=by unfold eJ;cases ch a b<;>simp
theorem qY(A:Option Addr)(ws:List Nat)(c n t:Nat)(w:World)(hn:ws.length=n)(hm:n<=1000000)(h2:256<=n)(ht:t<8)(hr:RdW w w.heap.size A ws)(ho:∀x∈ws,x<18446744073709551616):
 Calls prog 110 #[.slice A n c,.int .i64 (t:Int)] w λe w'=>FlRes (wd ws (96+2*t)) (wd ws (96+2*t+1)) e w'/\Below w.heap.size w w':=by
 subst hn;have u:=fF ho (96+2*t);have r:=fF ho (96+2*t+1);have l:=hid (λW=>pA (wd ws (96+2*t)) (wd ws (96+2*t+1)) W u r);have k:=hid (mF (wd ws (96+2*t)) (wd ws (96+2*t+1)));obtain⟨b,a,rfl,s,m⟩:=RdW.at_ hr (show 96+2*t<ws.length by omega);obtain⟨b',off',v,-,j⟩:=RdW.at_ hr (show 96+2*t+1<ws.length by omega);cases v;rw[<-cq] at m j;obtain⟨x,f⟩:=xq (wd ws (96+2*t));obtain⟨y,g⟩:=xq (wd ws (96+2*t+1));rw[f] at m l k |-;rw[g] at j l k |-;have t0:(0:Int)<=(t:Int):=by omega
 have t8:(t:Int)<8:=by omega
 have w1:IntKind.i64.wrap (2*(t:Int))=2*(t:Int):=kqs _ (by omega);have w2:IntKind.i64.wrap (96+2*(t:Int))=96+2*(t:Int):=kqs _ (by omega);have w3:IntKind.i64.wrap (96+2*(t:Int)+1)=96+2*(t:Int)+1:=kqs _ (by omega);have i1:(0:Int)<=96+2*(t:Int):=by omega
 have i2:(96:Int)+2*(t:Int)<(ws.length:Int):=by omega
 have i3:(0:Int)<=96+2*(t:Int)+1:=by omega
 have i4:(96:Int)+2*(t:Int)+1<(ws.length:Int):=by omega
 have n1:((96:Int)+2*(t:Int)).toNat=96+2*t:=by omega
 have n2:((96:Int)+2*(t:Int)+1).toNat=96+2*t+1:=by omega
 clear hr u r f g ho ht;go_enter func110,ntmps110;go_wp2_with fail
 go_region_held3 (λX:World=>X.cell? ⟨b,a+(96+2*t),none⟩=some (.int .u64 (x:Int))/\X.cell? ⟨b,a+(96+2*t+1),none⟩=some (.int .u64 (y:Int))) (go_keep)
  (first | (go_at_call 117;refine (l.out _).mono ?_;rintro e w5 ⟨⟨B,z,rfl,h,i⟩,d⟩;have m0:=(d.cell (p:=⟨b,a+(96+2*t),none⟩) s).trans m;have m1:=(d.cell (p:=⟨b,a+(96+2*t+1),none⟩) s).trans j;have q:=hid h;have o:=hid i;clear h i))
 go_wp2;go_ret2;exact⟨⟨B,z,by rw[k.out];rfl,q.out,o.out⟩,(kql _ _).drew.trans d⟩
def MhRes (ws:List Nat) (e:Ending) (w':World):Prop:=∃A c,e=.returned (.tuple #[.slice A (ag ws).length c,.int .i64 (ah ws)])/\RdB w' w'.heap.size A (ag ws)/\(ag ws).length<=c
theorem ml(hr:ah ws=r)(h0:r≠0):MhRes ws (.returned (.tuple #[.slice none 0 0,.int .i64 r])) w':=by
 subst hr;have:ag ws=[]:=by simp[ag,h0]
 exact⟨none,0,by rw[this];rfl,by rw[this];exact Rd.nil_,by rw[this];simp⟩
theorem gQ(h:aj (ws.length:Int)=true):fc ws.length 128=false:=by have:=(aa _).1 h;simp only[fc,kzl,kqh,kqq];omega
theorem uy(h:bQ ws 128=r)(h0:r≠0):ah ws=r:=by
 subst h;cases a:aj (ws.length:Int) with
 | false=>rw[na a,fv a]
 | true =>
  cases b:blocks ws 128 with
  | none=>rw[wW a b,eQ a (gQ a) b]
  | some l=>exact absurd (cF a (gQ a) b).1 h0
theorem yr(h:bQ ws 128=0):aj (ws.length:Int)=true/\blocks ws 128=some (aN ws 128):=by
 cases a:aj (ws.length:Int) with
 | false=>rw[fv a] at h;cases h
 | true =>
  cases b:blocks ws 128 with
  | none=>rw[eQ a (gQ a) b] at h;cases h
  | some l=>rw[(cF a (gQ a) b).2];exact⟨rfl,rfl⟩
theorem ue(hk:k<l.length)(h:(l.take k).all (dC ws)=true)(h1:dC ws l[k]=true):(l.take (k+1)).all (dC ws)=true:=by rw[kqo hk,List.all_append,h];simp[h1]
theorem Aa(hk:k<l.length)(h1:dC ws l[k]=false):l.all (dC ws)=false:=by
 cases a:l.all (dC ws) with
 | false=>rfl
 | true=>rw[kzu] at a;rw[a _ (kqp hk)] at h1;cases h1
theorem Am(h:ch a b=true):(a8 a b).length=a%256:=by simp[a8,h,eY]
theorem i9{b:Bk}(hk:b.kind=1):dC ws b=(ch (wd ws (tyA b)) (wd ws (tyA b+1))&&b.size==((aY (a8 (wd ws (tyA b)) (wd ws (tyA b+1))).length:Nat):Int)):=by
 unfold dC cZ;rw[hk];cases a:ch (wd ws (tyA b)) (wd ws (tyA b+1)) with
 | false=>rfl
 | true=>rw[Am a];rfl
theorem ey{b:Bk}(hk:b.kind≠1):dC ws b=true:=by unfold dC;rw[show (b.kind != 1)=true by rw[kqv];exact hk];rfl
theorem jK{i:Nat}(h:blocks ws i=some l)(h2:i%2=0)(hk:k<l.length)(h1:l[k].kind=1):0<=l[k].typ/\l[k].typ<8:=by obtain⟨a,e,-,-,-,b,-⟩:=b9 _ _ h h2 k hk;have h7:=(bA _).1 (fG b);have e1:(bkAt ws a).kind=(ar (wd ws a)).kind:=rfl;have e2:(bkAt ws a).typ=(ar (wd ws a)).typ:=rfl;rw[e] at h1 |-;omega
theorem gJ(ws:List Nat)(h:aj (ws.length:Int)=true):256<=ws.length/\ws.length<=2048/\ws.length%8=0:=by have:=(aa _).1 h;omega
theorem Hw(A:Option Addr)(ws:List Nat)(c n:Nat)(w:World)(hn:ws.length=n)(hm:n<=9223372036854775807)(D:RdW w w.heap.size A ws)(ho:∀x∈ws,x<18446744073709551616):
 Calls prog 62 #[.slice A n c] w λe w'=>MhRes ws e w'/\Below w.heap.size w w':=by
 subst hn;have HR:=hid D;have HO:=hid ho;have Jb:=hid (lU A ws c ws.length 128 w rfl hm D ho);clear D ho;cases z:aj (ws.length:Int)
 .have HI:=hid (bD z);have HE:=hid (na z);clear z;go_enter func62,ntmps62;go_wp2_with fail;refine (aE A ws.length c w hm).mono ?_;rintro e w1 ⟨rfl,rfl⟩;rw[HI.out];go_wp2;go_ret2;exact⟨ml HE.out (by omega),kql _ _⟩
 have HI:=hid (aX z);obtain⟨Eq,J,Je⟩:=gJ ws z;have HS:=hid z;clear z Je;go_enter func62,ntmps62;go_wp2_with fail;refine (aE A ws.length c w hm).mono ?_;rintro e w1 ⟨rfl,rfl⟩;rw[HI.out];go_wp2_with fail;refine Jb.out.mono ?_;rintro e w1 ⟨⟨A1,c1,rfl,I,H⟩,d⟩;have j:=d.size;have Y:=gO ws 128;have a:Hid (bQ ws 128=0->aj (ws.length:Int)=true/\blocks ws 128=some (aN ws 128)):=hid yr;have C:Hid (∀r,bQ ws 128=r->r≠0->ah ws=r):=hid (λ_ h h0=>uy h h0);obtain⟨l,hl⟩:=xq (aN ws 128);rw[hl] at I H Y a |-;have P:=hid I;have Jg:=hid H;obtain⟨r,D⟩:=xq (bQ ws 128);have Ja:=hid D;rw[D] at a |-;clear D I H hl;by_cases o:r=0
 .subst o;have L:=hid (a.out rfl).2;clear a C;go_wp2_with fail;go_loopw [26] (λi wr=>∃k:Nat,k<=l.length/\i=.int .i64 k/\Hid ((l.take k).all (dC ws)=true)/\Below w1.heap.size w1 wr) (λi _=>l.length-(intOf i).toNat)
  case atStart=>exact⟨0,kqy _,rfl,rfl,kql _ _⟩
  obtain⟨k,hk,rfl,S,K⟩:=hrel;have hz:=K.size;by_cases q:k<l.length
  .obtain ⟨b,off,rfl,hbw,q0,q1,q2,q3,q4,q5⟩:=RdB.at_ (P.out.below K) q;have p:=hid (λh=>jK L.out (by omega) q h);have F:=hid (λh=>ue q S.out h);have B:=hid (λh=>qM HS.out L.out (Aa q h));obtain⟨x,hx⟩:=xq (l[k]);rw[hx] at q0 q1 q2 q3 q4 q5 p F B;have s:=hid (λh=>i9 (ws:=ws) (b:=x) h);have T:=hid (λh=>ey (ws:=ws) (b:=x) h);have M:tyA x=96+2*x.typ.toNat:=rfl;rw[M] at s;obtain⟨xa,xs,xk,xt,xm,xn⟩:=x;dsimp only at q0 q1 q2 q3 q4 q5 p s;have hlm:(k:Int)<(l.length:Int):=by omega
   clear hx M;have y:=Bx.new wr 55 #[.int .i64 xa,.int .i64 xs,.int .i64 xk,.int .i64 xt,.bool xm,.int .u64 (xn:Int)];by_cases f:xk=1
   .obtain ⟨t0,t8⟩:=p.out f;obtain⟨t,rfl⟩:=kq1 t0;have v:=hid (s.out f);simp only[kqj] at v;subst f;have HC:=hid (λW (h:RdW W W.heap.size A ws)=>qY A ws c ws.length t W rfl (by omega) Eq (by omega) h HO.out);have hz1w:=j;have Jd:=hid ((((HR.out.up d j).up K hz).alloc (kqd _) (.cells #[.int .i64 xa,.int .i64 xs,.int .i64 1,.int .i64 (t:Int),.bool xm,.int .u64 (xn:Int)] 55)).more (B':=(wr.alloc (.cells #[.int .i64 xa,.int .i64 xs,.int .i64 1,.int .i64 (t:Int),.bool xm,.int .u64 (xn:Int)] 55)).heap.size) (by simp));obtain⟨R,V⟩:=xq (wd ws (96+2*t));obtain⟨fy,N⟩:=xq (wd ws (96+2*t+1));rw[V,N] at HC v;clear y V N s T p;go_wp2_with fail;refine (HC.out _ Jd.out).mono ?_;rintro e w2 ⟨⟨A2,c2,rfl,Q,X⟩,u⟩;rw[kqm] at u;have O:=Bx.of_new u;have J:=K.trans ((av u).mono hz);obtain⟨c0,c1',c2',c3,c4,c5,cf,cz⟩:=O.c6;have E:=hid J;clear Q X O u J cf;obtain⟨ok,U⟩:=xq (ch R fy);obtain⟨m,G⟩:=xq ((a8 R fy).length);have hm8:m<=255:=by
     rw[<-G];unfold a8;split
     .rw[eY];have:=kz0 R (show 0<256 by omega);omega
     simp
    rw[U,G] at v |-;clear U G;cases ok
    .have HB:=hid (B.out (by rw[v.out];rfl));go_wp2;go_ret2;exact⟨ml HB.out (by omega),d.trans (E.out.mono j)⟩
    rw[kzr] at v;have Jh:((aY m:Nat):Int)=((m:Int)+3)/2*2:=by unfold aY;omega
    rw[Jh] at v;by_cases g:xs=((m:Int)+3)/2*2
    .have Jf:(xs != ((m:Int)+3)/2*2)=false:=by rw[kqq];exact g
     have HY:=hid (F.out (by rw[v.out,kqw];exact g));clear g;go_wp2;go_roundw
     case rel=>exact⟨k+1,by omega,by go_num,HY.out,E.out⟩
     case measure=>simp[intOf];omega
    have Jf:(xs != ((m:Int)+3)/2*2)=true:=by rw[kqv];exact g
    have HB:=hid (B.out (by rw[v.out,kqi];exact g));clear g;go_wp2;go_ret2;exact⟨ml HB.out (by omega),d.trans (E.out.mono j)⟩
   have hk2:(xk != 1)=true:=by rw[kqv];exact f
   have HY:=hid (F.out (T.out f));clear f y;go_wp2;go_roundw
   case rel=>exact⟨k+1,by omega,by go_num,HY.out,K.alloc hz _⟩
   case measure=>simp[intOf];omega
  have Z:=hid (fS HS.out L.out (by have:=S.out;rwa [kq5 (by omega)] at this));go_wp2;go_ret2;exact⟨⟨A1,c1,by rw[Z.out.1,Z.out.2];rfl,by rw[Z.out.2];exact P.out.up K hz,by rw[Z.out.2];exact Jg.out⟩,d.trans (K.mono j)⟩
 have hn1:(r != 0)=true:=by rw[kqv];exact o
 have HN:=hid (C.out r Ja.out o);have Jc:=hid o;clear o a C;go_wp2;go_ret2;exact⟨ml HN.out Jc.out,d⟩
theorem mt(A:Option Addr)(ws:List Nat)(c n:Nat)(w:World)(hn:ws.length=n)(hm:n<=9223372036854775807)(a:RdW w w.heap.size A ws)(ho:∀x∈ws,x<18446744073709551616):
 Calls prog 162 #[.slice A n c] w λe w'=>e=.returned (.int .i64 (ah ws))/\Below w.heap.size w w':=by have f:=hid (Hw A ws c n w hn hm a ho);clear a ho hn;obtain⟨r,a⟩:=xq (ah ws);have d:=hid a;rw[a];clear a;go_enter func162,ntmps162;go_wp2_with fail;refine f.out.mono ?_;rintro e w1 ⟨⟨A1,c1,rfl,-,-⟩,b⟩;go_wp2;go_ret;exact⟨by rw[<-d.out];rfl,b⟩
theorem rW(hk:k<l.length):eE (l.take (k+1))=eE (l.take k)++(if l[k].mark=true then [l[k].at_] else []):=by rw[kqo hk];unfold eE;rw[kx8,kjj];cases h:l[k].mark<;>simp[h]
theorem CR(l:List Bk):(eE l).length<=l.length:=by unfold eE;rw[kz3];exact kjk _ _
theorem jh(ws:List Nat):(ag ws).length<=1024:=by
 unfold ag;split
 .rename_i h;obtain⟨b,l,a,-⟩:=ay h;have hb:=(aa _).1 b;have:=(bG (by omega) _ _ a (by omega) (by omega) (by omega)).1;rw[a];simp only[kq9];omega
 simp
theorem kC{n:Nat}{e:TypeId}{sz:Nat}{xs:List Value}(h:w'.ownsRow H e sz v n xs):∃A c,v=.slice A n c/\n<=c/\Rd w' w'.heap.size A xs:=by
 have b:∃A c,v=.slice A n c/\n<=c:=by
  rcases h.2 with⟨rfl,hnil⟩|⟨g,cap,cur,rfl,_,_,a,_⟩
  .have h0:n=0\/0<n:=by omega
   exact⟨none,0,by
    have:=aJ h;obtain⟨A,c,e⟩:=this;injection e with _ e2 _;rw[<-e2],by
    have:=aJ h;obtain⟨A,c,e⟩:=this;injection e with _ e2 _;omega⟩
  exact⟨_,_,rfl,a⟩
 obtain⟨A,c,rfl,a⟩:=b;exact⟨A,c,rfl,a,Rd.of_own h⟩
theorem uY(ws:List Nat)(xa xs xk:Int)(t:Nat)(xm:Bool)(xn:Nat):cZ ws ⟨xa,xs,xk,(t:Int),xm,xn⟩=(ch (wd ws (96+2*t)) (wd ws (96+2*t+1))&&xs==((aY (a8 (wd ws (96+2*t)) (wd ws (96+2*t+1))).length:Nat):Int)):=by have h:=i9 (ws:=ws) (b:=⟨xa,xs,1,(t:Int),xm,xn⟩) rfl;unfold dC at h;exact h
theorem nr(a b:Nat):cY (a8 a b)=0:=by
 unfold a8;split
 .rename_i h;unfold ch at h;simp only[kqt,kzc] at h;exact ju (by rw[eY];exact h.1.1) h.1.2
 rfl
theorem kR(a b:Nat):(a8 a b).length<=8:=(kf (nr a b)).1
theorem Ag(A:Option Addr)(ws:List Nat)(c n t:Nat)(xa xs xk:Int)(xm:Bool)(xn:Nat)(w:World)(hn:ws.length=n)(hm:n<=1000000)(h2:256<=n)(ht:t<8)(B:RdW w w.heap.size A ws)(ho:∀x∈ws,x<18446744073709551616):
 Calls prog 216 #[.slice A n c,.agg #[.int .i64 xa,.int .i64 xs,.int .i64 xk,.int .i64 (t:Int),.bool xm,.int .u64 (xn:Int)]] w λe w'=>e=.returned (.bool (cZ ws ⟨xa,xs,xk,(t:Int),xm,xn⟩))/\Below w.heap.size w w':=by
 subst hn;have hx:=fF ho (96+2*t);have hy:=fF ho (96+2*t+1);have a:=hid (uY ws xa xs xk t xm xn);have R:=hid (λW=>pA (wd ws (96+2*t)) (wd ws (96+2*t+1)) W hx hy);have P:=hid (mF (wd ws (96+2*t)) (wd ws (96+2*t+1)));have v:=kR (wd ws (96+2*t)) (wd ws (96+2*t+1));have h:=hid (nr (wd ws (96+2*t)) (wd ws (96+2*t+1)));obtain⟨b,d,rfl,hb,o⟩:=RdW.at_ B (show 96+2*t<ws.length by omega);obtain⟨b',off',e',-,k⟩:=RdW.at_ B (show 96+2*t+1<ws.length by omega);cases e';rw[<-cq] at o k;obtain⟨x,D⟩:=xq (wd ws (96+2*t));obtain⟨y,G⟩:=xq (wd ws (96+2*t+1));obtain⟨q,E⟩:∃q,cZ ws ⟨xa,xs,xk,(t:Int),xm,xn⟩=q:=⟨_,rfl⟩;rw[D] at o R P a h v;rw[G] at k R P a h v;rw[E] at a |-;have t0:(0:Int)<=(t:Int):=by omega
 have t8:(t:Int)<8:=by omega
 have w1:IntKind.i64.wrap (2*(t:Int))=2*(t:Int):=kqs _ (by omega);have w2:IntKind.i64.wrap (96+2*(t:Int))=96+2*(t:Int):=kqs _ (by omega);have w3:IntKind.i64.wrap (96+2*(t:Int)+1)=96+2*(t:Int)+1:=kqs _ (by omega);have i1:(0:Int)<=96+2*(t:Int):=by omega
 have i2:(96:Int)+2*(t:Int)<(ws.length:Int):=by omega
 have i3:(0:Int)<=96+2*(t:Int)+1:=by omega
 have i4:(96:Int)+2*(t:Int)+1<(ws.length:Int):=by omega
 have n1:((96:Int)+2*(t:Int)).toNat=96+2*t:=by omega
 have n2:((96:Int)+2*(t:Int)+1).toNat=96+2*t+1:=by omega
 obtain⟨cs,T⟩:∃cs,cs=#[Value.int .i64 xa,.int .i64 xs,.int .i64 xk,.int .i64 (t:Int),.bool xm,.int .u64 (xn:Int)]:=⟨_,rfl⟩;have Q:=Bx.new w 55 #[.int .i64 xa,.int .i64 xs,.int .i64 xk,.int .i64 (t:Int),.bool xm,.int .u64 (xn:Int)];have f:=(kql w.heap.size w).alloc (kqd _) (.cells #[.int .i64 xa,.int .i64 xs,.int .i64 xk,.int .i64 (t:Int),.bool xm,.int .u64 (xn:Int)] 55);replace o:=(f.cell (p:=⟨b,d+(96+2*t),none⟩) hb).trans o;replace k:=(f.cell (p:=⟨b,d+(96+2*t+1),none⟩) hb).trans k;have M:(w.alloc (.cells #[.int .i64 xa,.int .i64 xs,.int .i64 xk,.int .i64 (t:Int),.bool xm,.int .u64 (xn:Int)] 55)).heap.size=w.heap.size+1:=by simp
 clear B hx hy D G ho ht E T;go_enter func216,ntmps216;go_wp2_with fail;obtain⟨s,J⟩:∃s,w.alloc (.cells #[.int .i64 xa,.int .i64 xs,.int .i64 xk,.int .i64 (t:Int),.bool xm,.int .u64 (xn:Int)] 55)=s:=⟨_,rfl⟩;rw[J] at o k Q f M |-;clear J;have Z:s.cell? ⟨w.heap.size,3,none⟩=some (.int .i64 (t:Int)):=Q.cell 3;have I:b<s.heap.size:=by omega
 have H:w.heap.size<s.heap.size:=by omega
 have BX:=hid Q;have C:=hid f;clear Q f M
 go_region_held3 (λX:World=>X.cell? ⟨b,d+(96+2*t),none⟩=some (.int .u64 (x:Int))/\X.cell? ⟨b,d+(96+2*t+1),none⟩=some (.int .u64 (y:Int))/\X.cell? ⟨w.heap.size,3,none⟩=some (.int .i64 (t:Int))) (go_keep)
  (first | (go_at_call 117;refine (R.out _).mono ?_;rintro e S ⟨⟨A1,c1,rfl,K,Y⟩,g⟩;have m0:=(g.cell (p:=⟨b,d+(96+2*t),none⟩) I).trans o;have m1:=(g.cell (p:=⟨b,d+(96+2*t+1),none⟩) I).trans k;have m2:=(g.cell (p:=⟨w.heap.size,3,none⟩) H).trans Z;have U:=hid K;have l:=hid g;clear K Y))
 have u:=sj A1 (a8 x y) c1 (a8 x y).length S.heap.size S rfl (by omega) U.out;have N:kSz (a8 x y)=aY (a8 x y).length:=by simp[kSz,h.out]
 rw[h.out,N] at u;have i:=hid u;have L:aY (a8 x y).length<=10:=by unfold aY;omega
 have c1x:S.cell? ⟨w.heap.size,1,none⟩=some (.int .i64 xs):=(l.out.cell (p:=⟨w.heap.size,1,none⟩) H).trans (BX.out.cell 1);obtain⟨m,O⟩:=xq ((a8 x y).length);rw[O] at a i v L |-;obtain⟨z,hz⟩:=xq (aY m);rw[hz] at i a L;have j:Hid (eJ x y=if ch x y=true then 0 else 50):=hid rfl;obtain⟨r,B⟩:=xq (eJ x y);obtain⟨V,F⟩:=xq (ch x y);rw[B] at j P |-;rw[F] at j a P;clear B F u N O hz m0 m1 m2 o k Z;cases V
 .obtain rfl:r=50:=j.out;go_wp2_with fail;refine i.out.mono ?_;rintro e w6 ⟨rfl,rfl⟩;go_wp2;go_ret;exact⟨by rw[a.out];rfl,C.out.trans ((kql _ _).drew.trans (l.out.mono (by show _<=s.heap.size;omega)))⟩
 obtain rfl:r=0:=j.out;rw[kzr] at a;go_wp2_with fail;refine i.out.mono ?_;rintro e w6 ⟨rfl,rfl⟩;go_wp2;go_ret;exact⟨by rw[a.out];rfl,C.out.trans ((kql _ _).drew.trans (l.out.mono (by show _<=s.heap.size;omega)))⟩
theorem dm:(prog.info? 89).map (λi=>(i.zero,i.size,i.bytes))=some (some (.agg #[.int .i64 0,.int .u64 0]),2,16):=by kernel_rfl
def aG (ws:List Nat):List En:=if ah ws=0 then aQ (ag ws) 128 else []
theorem gj(h:ah ws=0):bQ ws 128=0/\aN ws 128=ag ws/\ew (ag ws) 128=0/\blocks ws 128=some (ag ws):=by obtain⟨b,l,a,h3,c⟩:=ay h;obtain⟨d,e⟩:=cF b (gQ b) (l:=l) a;have hb:=(aa _).1 b;refine⟨d,by rw[e,c],?_,by rw[a,c]⟩;rw[c];exact kP (i:=128) (by omega) a (by omega) (by omega) (by omega) (s:=128) (by omega) (by omega) (by omega)
theorem wj(hk:k<l.length)(s:Int):aQ (l.take (k+1)) s=aQ (l.take k) s++(if l[k].kind=1/\l[k].next≠bv l[k] (aK (l.take k) s) then [⟨l[k].at_+1,bv l[k] (aK (l.take k) s)⟩] else []):=by rw[kqo hk,rY];simp[aQ]
theorem nF(l:List Bk):∀s,(aQ l s).length<=l.length:=by
 induction l with
 | nil=>intro s;exact kqd _
 | cons b l ih =>intro s;have:=ih (eU b s);simp only[aQ,kqu,kq2];split<;>simp<;>omega
theorem uK(h:ew l s=0)(hk:k<l.length):∃a:k<(jb l s).length,(jb l s)[k]=((bv l[k] (aK (l.take k) s):Nat):Int)/\bv l[k] (aK (l.take k) s)<=2048:=by
 have d:jb l s=bo l s:=by simp[jb,h]
 have e:k<(jb l s).length:=by rw[d,dd];exact hk
 refine⟨e,?_,?_⟩
 .have:=sN (l:=l) (s:=s) hk;rw[bN l k hk,<-d,kqk e] at this;rw[Option.some.inj this];obtain⟨b,a,c,_⟩:=eP h;have f:=kx b (kz7 hk) a c;unfold bv;split<;>omega
 obtain⟨b,a,c,_⟩:=eP h;have f:=kx b (kz7 hk) a c;unfold bv;split<;>omega
theorem vg(h:ew l s=0)(hk:k<l.length):128<=l[k].at_/\l[k].at_<=2048/\2<=l[k].size/\l[k].size<=2048:=by obtain⟨a,_⟩:=eP h;have:=(eD _).1 (dG (dj a).2 hk).1;rw[bN l k hk] at this;omega
theorem tp(A:Option Addr)(ws:List Nat)(c n:Nat)(w:World)(hn:ws.length=n)(hm:n<=9223372036854775807)(B:RdW w w.heap.size A ws)(ho:∀x∈ws,x<18446744073709551616):
 Calls prog 143 #[.slice A n c] w λe w'=>ii w.heap.size (ah ws) (aG ws) e w'/\Below w.heap.size w w':=by
 have HC:=hid (mt A ws c n w hn hm B ho);have HF:=hid (λW (h:RdW W W.heap.size A ws)=>lU A ws c n 128 W hn hm h ho);have HR:=hid B;have F:Hid (ah ws=0->bQ ws 128=0/\aN ws 128=ag ws/\ew (ag ws) 128=0/\blocks ws 128=some (ag ws)):=hid gj;have Eq:=jh ws;clear B ho hn;by_cases y:ah ws=0
 .obtain ⟨g1,g2,g3,g4⟩:=F.out y;have R:=hid (show aG ws=aQ (ag ws) 128 by simp[aG,y]);have HE:=hid y;rw[y] at HC;unfold pG at HF;rw[g1,g2] at HF;obtain⟨l,hl⟩:=xq (ag ws);rw[hl] at HF Eq R g3;have D:=hid g3;have J:=hid (λ(A2:Option Addr) (c2:Nat) (W:World) (h:RdB W W.heap.size A2 l)=>tU A2 l c2 l.length 128 W rfl (by omega) h (by omega));unfold An at J;rw[g3] at J;clear y g1 g2 g3 g4 hl F;obtain⟨i0,hi,T,f,t⟩:=kzv dm;have HI:=hid hi;have Jc:=hid T;have Ji:=hid f;have Jd:=hid t;clear hi T f t;go_enter func143,ntmps143;go_wp2_with fail;refine HC.out.mono ?_;rintro e w1 ⟨rfl,g⟩;have f:=g.size;go_wp2_with fail;refine (HF.out _ (HR.out.up g f)).mono ?_;rintro e w2 ⟨⟨A1,c1,rfl,Y,-⟩,K⟩;have Z:=g.trans (K.mono f);have t:=Z.size;have E:=hid Y;clear Y;go_wp2_with fail;refine (J.out A1 c1 _ E.out).mono ?_;rintro e w3 ⟨⟨A2,c2,rfl,X,-⟩,z⟩;have G:=Z.trans (z.mono t);have Jg:=G.size;have N:=hid X;have O:=hid (E.out.up z z.size);clear X E;obtain⟨pl,j⟩:=xq (jb l 128);have HPE:=hid j;rw[j] at N |-;have o:pl.length=l.length:=by rw[<-j];simp[jb,D.out,dd]
  have V:=hid (λk (hk:k<l.length)=>uK D.out hk);rw[j] at V;have HPL2:=hid o;rw[o];clear j o;go_wp2_with fail;go_loopw [9,30] (λv i wr=>∃k:Nat,k<=l.length/\i=.int .i64 k/\wr.ownsRow w3.heap.size 89 2 v (aQ (l.take k) 128).length ((aQ (l.take k) 128).flatMap En.cells)/\Below w3.heap.size w3 wr) (λ_ i _=>l.length-(intOf i).toNat)
  case atStart=>exact⟨0,kqy _,rfl,kq8 _ _ _ _,kql _ _⟩
  obtain⟨k,hk,rfl,a,I⟩:=hrel;have hz:=I.size;by_cases q:k<l.length
  .obtain ⟨b,off,rfl,hbw,q0,q1,q2,q3,q4,q5⟩:=RdB.at_ (O.out.below I) q;obtain⟨Jf,L,Jb⟩:=V.out k q;obtain⟨b2,P,rfl,hbw2,p0⟩:=RdI.at_ (N.out.below I) Jf;rw[L] at p0;have d:=hid (wj q 128);have H:=nF (l.take k) 128;rw[kq3] at H;have Q:=vg D.out q;obtain⟨m,S⟩:=xq (aQ (l.take k) 128);rw[S] at a d H;obtain⟨v,hv⟩:=xq (bv l[k] (aK (l.take k) 128));rw[hv] at Jb p0 d;obtain⟨x,hx⟩:=xq (l[k]);rw[hx] at q0 q1 q2 q3 q4 q5 d Q;obtain⟨xa,xs,xk,xt,xm,U⟩:=x;dsimp only at q0 q1 q2 q3 q4 q5 d Q;have hlm:(k:Int)<(l.length:Int):=by omega
   have hml2:m.length<=1024:=by omega
   have M:b2<wr.heap.size:=by omega
   have p0':=(kzi wr (.cells #[.int .i64 xa,.int .i64 xs,.int .i64 xk,.int .i64 xt,.bool xm,.int .u64 (U:Int)] 55) ⟨b2,P+k,none⟩ M).trans p0;have hv2:(v:Int)<=2048:=by omega
   have hv0:(0:Int)<=(v:Int):=by omega
   clear hx S H hv L;by_cases s:xk=1
   .subst s;by_cases u:U=v
    .have Ja:((U:Int) != (v:Int))=false:=by rw[kqq];omega
     have p:=hid (show aQ (l.take (k+1)) 128=m by rw[d.out,if_neg (λh=>h.2 u)];simp);clear d u;go_wp2;go_roundw
     case rel=>exact⟨k+1,by omega,by go_num,by rw[p.out];exact a.alloc _,I.alloc hz _⟩
     case measure=>simp[intOf];omega
    have Ja:((U:Int) != (v:Int))=true:=by rw[kqv];omega
    have p:=hid (show aQ (l.take (k+1)) 128=m++[⟨xa+1,v⟩] by rw[d.out,if_pos ⟨rfl,u⟩]);clear d u;go_wp2_with (at_builtin;refine kzd _ rfl _ _ 26 rfl w3.heap.size 89 i0 _ 2 16 underlying26 HI.out Jc.out Ji.out Jd.out rfl (by decide) _ _ _ rfl ((a.alloc _).alloc _) ⟨_,0,none⟩ 1 1 [.int .i64 (xa+1),.int .u64 (v:Int)] rfl rfl (ld _ _ _ (kqm _ _)) (by simp[Value.oneCell']) (by unfold maxLen;omega) (by omega) (by simp;omega) ?_;intro v1 w2 C Jj _;have K:=aC (I.alloc hz (.cells #[.int .i64 xa,.int .i64 xs,.int .i64 1,.int .i64 xt,.bool xm,.int .u64 (U:Int)] 55)) (by simp;omega) (a.alloc _) Jj);go_roundw
    case rel=>exact⟨k+1,by omega,by go_num,by rw[p.out,kqu,ce];exact C,K⟩
    case measure=>simp[intOf];omega
   have hk2:(xk==1)=false:=by rw[kqi];exact s
   have p:=hid (show aQ (l.take (k+1)) 128=m by rw[d.out,if_neg (λh=>s h.1)];simp);clear d s;go_wp2;go_roundw
   case rel=>exact⟨k+1,by omega,by go_num,by rw[p.out];exact a.alloc _,I.alloc hz _⟩
   case measure=>simp[intOf];omega
  rw[kq5 (by omega)] at a;obtain⟨A4,c4,rfl⟩:=aJ a;have Jh:=hid (ao a G.size);clear a;go_wp2;go_ret2;exact⟨⟨A4,c4,by rw[R.out,HE.out];rfl,by rw[R.out];exact Jh.out⟩,G.trans (I.mono Jg)⟩
 have Je:(ah ws != 0)=true:=by rw[kqv];exact y
 have R:=hid (show aG ws=[] by simp[aG,y]);obtain⟨r,B⟩:=xq (ah ws);have HE:=hid B;rw[B] at HC Je;clear y B F;go_enter func143,ntmps143;go_wp2_with fail;refine HC.out.mono ?_;rintro e w1 ⟨rfl,g⟩;go_wp2;go_ret2;exact⟨bL HE.out R.out,g⟩
end Go.Proofs.YtpcajamacpbjcaaGreat
