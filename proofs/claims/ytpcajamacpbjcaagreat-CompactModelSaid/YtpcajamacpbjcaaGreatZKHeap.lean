/- Texts laid together: Knd KndW KndR Mrk Mrk2 Fwt Fww. -/
import Derived.Test.YtpcajamacpbjcaaGreatZKPlain
import Derived.Test.YtpcajamacpbjcaaGreatZKHead
import Derived.Deep.RegionHeld3
import Derived.Deep.DrawnRows
import Derived.Test.YtpcajamacpbjcaaGreatZKPlace
set_option maxHeartbeats 16000000
set_option maxRecDepth 100000
set_option linter.all false
namespace Go.Proofs.YtpcajamacpbjcaaGreat
open Lib (hid)
open Go.RowKit
variable {r s:Int}{l:List Bk}{ws:List Nat}{H a b k:Nat}{v:Value}{w':World}
open Go.Proofs.Tryz
def aJ (x:Nat):List Value:=[.int .u8 (x:Int)]
theorem gU(x:Nat):(aJ x).length=1:=rfl
def RdY (w:World) (B:Nat) (A:Option Addr) (l:List Nat):Prop:=Rd w B A (l.flatMap aJ)
theorem RdY.at_{w:World}{B:Nat}{A:Option Addr}{l:List Nat}(h:RdY w B A l)(hk:k<l.length):
 ∃b a,A=some ⟨b,a,none⟩/\b<B/\w.cell? ⟨b,a+k,none⟩=some (.int .u8 (l[k]:Int)):=by obtain⟨b,a,e,c,d⟩:=Rd.at_flat gU h (by omega) hk;have:=d 0 (by omega);simp only[kxn,kxd] at this;exact⟨b,a,e,c,this⟩
theorem wG{l:List Nat}(hk:k<l.length)(h:dd (l.take k)=true)(h1:1<=l[k])(h2:l[k]<=3):dd (l.take (k+1))=true:=by
 rw[kqp hk];rw[cv] at h |-;intro x a;rw[kzo] at a;rcases a with a|a
 .exact h x a
 simp only[kq0,kzu,or_false] at a;subst a;exact⟨h1,h2⟩
theorem qe(A:Option Addr)(l:List Nat)(c n B:Nat)(w:World)(hn:l.length=n)(hm:n<=9223372036854775807)(hr:RdY w B A l):
 Calls prog 118 #[.slice A n c] w λe w'=>e=.returned (.int .i64 (b8 l))/\w=w':=by
 subst hn;have v:=hid hr;clear hr;by_cases p:8<l.length
 .have s:=hid (tJ p);go_enter func118,ntmps118;go_wp2;go_ret;exact⟨by rw[s.out];rfl,rfl⟩
 have d:l.length<=8:=by omega
 have m:Hid (dd l=false->b8 l=8):=hid λh=>lk d h;have y:Hid (dd l=true->b8 l=0):=hid λh=>je d h;clear p;go_enter func118,ntmps118;go_wp2_with fail
 go_loop [10] (λi=>∃k:Nat,k<=l.length/\i=.int .i64 k/\Hid (dd (l.take k)=true)) (λi=>l.length-(intOf i).toNat)
 case atStart=>exact⟨0,kqy _,rfl,rfl⟩
 obtain⟨k,hk,rfl,q⟩:=hrel;by_cases a:k<l.length
 .obtain ⟨b,off,rfl,hb,z⟩:=v.out.at_ a;have r:=hid (λf g=>wG a q.out f g);have j:=hid (λh=>AE a h);obtain⟨x,o⟩:=xq (l[k]);rw[o] at z r j;clear o;by_cases f:x<1
  .have E:=hid (m.out (j.out (.inl f)));go_wp2;go_ret;exact⟨by rw[E.out];rfl,rfl⟩
  by_cases g:3<x
  .have E:=hid (m.out (j.out (.inr g)));go_wp2;go_ret;exact⟨by rw[E.out];rfl,rfl⟩
  have t:1<=x:=by omega
  have u:x<=3:=by omega
  clear f g;go_wp2_with fail
  go_round
  case rel=>exact⟨k+1,by omega,by go_num,r.out t u⟩
  case measure=>simp[intOf];omega
 have E:=hid (y.out (by have:=q.out;rwa [kzg (by omega)] at this));go_wp2;go_ret;exact⟨by rw[E.out];rfl,rfl⟩
def kSz (l:List Nat):Nat:=if b8 l=0 then aP l.length else 0
theorem rY(A:Option Addr)(l:List Nat)(c n B:Nat)(w:World)(hn:l.length=n)(hm:n<=9223372036854775807)(hr:RdY w B A l):
 Calls prog 158 #[.slice A n c] w λe w'=>e=.returned (.tuple #[.int .i64 (kSz l:Nat),.int .i64 (b8 l)])/\w=w':=by
 have b:=hid (qe A l c n B w hn hm hr);clear hr;by_cases a:b8 l=0
 .have h:=(jB a).1;have d:=hid (show ((kSz l:Nat):Int)=2+((n:Int)+1)/2*2 by simp only[kSz,a,if_true,aP,hn];omega);rw[hn] at h;rw[a] at b;have f:=hid a;clear a hn;go_enter func158,ntmps158;go_wp2_with fail;refine b.out.mono ?_;rintro e g ⟨rfl,rfl⟩;go_wp2;go_ret2;exact⟨by rw[d.out,f.out];rfl,rfl⟩
 have d:=hid (show kSz l=0 by simp[kSz,a]);have hne:(b8 l != 0)=true:=by rw[kqt];exact a
 clear a hn;go_enter func158,ntmps158;go_wp2_with fail;refine b.out.mono ?_;rintro e g ⟨rfl,rfl⟩;go_wp2;go_ret2;exact⟨by rw[d.out];rfl,rfl⟩
def yR (a b:Nat):Value:=.agg #[.int .u64 (a:Int),.int .u64 (b:Int)]
def kwV (l:List Nat):Value:=if b8 l=0 then yR (gx l) (gc (gx l)) else yR 0 0
def fw (l:List Nat) (k:Nat):Nat:=l.length+mm (l.take k) 4
theorem jy{fn:Func}{p q:Tmp}(h:fn.results=#[.cell p 157,.tmp q])(tmps:Array Value){W:World}{g:Nat}{t:TypeId}{v0 v1 u:Value}(hb:Bx W g t #[v0,v1])(hp:tmps.getD p undef=.pointer (some ⟨g,0,none⟩))(hq:tmps.getD q undef=u):
 (results fn tmps).run prog W=.ok (.tuple #[.agg #[v0,v1],u]) W:=by obtain⟨a,b,-⟩:=hb.c2;rw[kxp] at hp hq;simp[results,h,hp,hq,go_sem,a,b]
theorem fw_lt{l:List Nat}(h:l.length<=8)(hk:dd l=true)(k:Nat):fw l k<4 ^ (4+k):=by
 have h1:=sA (l.take k) 4 (λx a=>((cv l).1 hk x (kxu a)).2);have h2:4 ^ (4+(l.take k).length)<=4 ^ (4+k):=kjc (by omega) (by rw[kq6];omega);have h4:(4:Nat) ^ 4=256:=by decide
 unfold fw;omega
theorem Gb{l:List Nat}{x:Nat}(h:l.length<=8)(hk:dd l=true)(hlt:k<l.length)(hx:l[k]=x):
 bits BinOp.or .u64 (fw l k:Nat) (IntKind.u64.wrap ((x:Int)*2 ^ (8+2*k)))=((fw l (k+1):Nat):Int):=by
 have b:x<=3:=by rw[<-hx];exact ((cv l).1 hk l[k] (kqm hlt)).2
 have c:=fw_lt h hk k;have a:(2:Nat) ^ (8+2*k)=4 ^ (4+k):=by rw[show 8+2*k=2*(4+k) by omega,Nat.pow_mul]
 have hp:(4:Nat) ^ (4+k)<=4 ^ 11:=kjc (by omega) (by omega);have h11:(4:Nat) ^ 11=4194304:=by decide
 have hb:x*2 ^ (8+2*k)<=3*4194304:=by rw[a];exact kza (kjb _ b) (by omega)
 have d:(x:Int)*2 ^ (8+2*k)=((x*2 ^ (8+2*k):Nat):Int):=by simp
 rw[d,kzs _ (by omega),u64_or_nat _ _ (by omega) (by omega),jC (by rw[a];exact c)];have e:fw l (k+1)=fw l k+x*4 ^ (4+k):=by unfold fw;rw[kqp hlt,mK,hx,kq6,kxb (by omega)];simp only[mm];omega
 rw[e,a]
theorem fw_end(l:List Nat):fw l l.length=gx l:=by unfold fw gx;rw[kz2]
theorem tQ(A:Option Addr)(l:List Nat)(c n:Nat)(w:World)(hn:l.length=n)(hm:n<=9223372036854775807)(hr:RdY w w.heap.size A l):
 Calls prog 175 #[.slice A n c] w λe w'=>e=.returned (.tuple #[kwV l,.int .i64 (b8 l)])/\Below w.heap.size w w':=by
 subst hn;have T:=hid hr;have G:=Bx.new w 157 #[.int .u64 0,.int .u64 0];have I:=hid (qe A l c l.length w.heap.size (w.alloc (.cells #[.int .u64 0,.int .u64 0] 157)) rfl hm (hr.alloc (kqg _) _));by_cases a:b8 l=0
 .have H:=jB a;obtain⟨t,p⟩:=H;have g:=hid p;have j:=hid (show kwV l=.agg #[.int .u64 (gx l:Nat),.int .u64 (gc (gx l):Nat)] by simp[kwV,a,yR]);have S:=hid a;rw[a] at I;have N:=hid G;clear a p G hr;go_enter func175,ntmps175;go_wp2_with fail;refine I.out.mono ?_;rintro e R ⟨rfl,rfl⟩;go_wp2_with fail
  go_loop [5,21] (λs i=>∃k:Nat,k<=l.length/\i=.int .i64 k/\s=.int .u64 (fw l k:Nat)) (λ_ i=>l.length-(intOf i).toNat)
  case atStart=>exact⟨0,kqy _,rfl,by simp[fw,mm]⟩
  obtain⟨k,hk,rfl,rfl⟩:=hrel;by_cases f:k<l.length
  .obtain ⟨b,K,rfl,U,a⟩:=T.out.at_ f;replace a:=(kq4 w (.cells #[.int .u64 0,.int .u64 0] 157) ⟨b,K+k,none⟩ U).trans a;obtain⟨x,F⟩:=xq (l[k]);have hx3:x<=3:=by rw[<-F];exact ((cv l).1 g.out l[k] (kqm f)).2
   have o:=hid (Gb t g.out f F);obtain⟨q,D⟩:=xq (fw l k);rw[F] at a;rw[D] at o |-;clear F D;go_wp2_with fail
   go_round
   case rel=>exact⟨k+1,by omega,by go_num,by rw[o.out]⟩
   case measure=>simp[intOf];omega
  obtain rfl:k=l.length:=by omega
  have B:=Aa t g.out;have m:Hid (a8 14695981039346656037 [gx l]=gc (gx l)):=hid rfl;rw[fw_end];obtain⟨q,D⟩:=xq (gx l);rw[D] at B j m |-;have P:(prog.info? 157).map (·.size)=some 2:=by kernel_rfl
  clear D;go_wp2_with fail;have h:=nu (w.alloc (.cells #[.int .u64 0,.int .u64 0] 157)) [.int .u64 (q:Int)] 53;refine (tp _ [q] _ 1 _ rfl (by omega) (by simp only[kqn] at h |-;exact h) (by intro y Q;simp at Q;subst Q;omega)).mono ?_;rintro e R ⟨rfl,d⟩;rw[kqn,kqn] at d;have C:=(((kql _ _).alloc (kqg _) (.cells #[.int .u64 0,.int .u64 0] 157)).alloc (by simp) (.cells #[.int .u64 (q:Int)] 53)).trans (d.mono (by omega));have u:=(N.out.alloc (.cells #[.int .u64 (q:Int)] 53)).up d (by omega);have O:=hid u;have J:=hid C;rw[m.out];obtain⟨z,H⟩:=xq (gc q);rw[H] at j |-;clear H u C d h;go_wp2_with ((with_reducible refine bt 157 (.tmp 2) _ ?_);refine am rfl _ _ _ rfl w.heap.size 157 #[.int .u64 0,.int .u64 0] #[.int .u64 (q:Int),.int .u64 (z:Int)] (by rfl) (by rfl) O.out rfl P (by simp[Value.oneCell']) ?_;intro w3 r E;have L:=hid r;have M:=hid E;clear r E);exact kqv (v:=.tuple #[.agg #[.int .u64 (q:Int),.int .u64 (z:Int)],.int .i64 0]) (jy results175 _ L.out rfl rfl) rfl ⟨by rw[j.out,S.out],M.out.below J.out (kqg _)⟩
 have j:=hid (show kwV l=.agg #[.int .u64 0,.int .u64 0] by simp[kwV,a,yR]);have hne:(b8 l != 0)=true:=by rw[kqt];exact a
 have N:=hid G;clear a G hr;go_enter func175,ntmps175;go_wp2_with fail;refine I.out.mono ?_;rintro e R ⟨rfl,rfl⟩;go_wp2_with fail;exact kqv (v:=.tuple #[.agg #[.int .u64 0,.int .u64 0],.int .i64 (b8 l)]) (jy results175 _ N.out rfl rfl) rfl ⟨by rw[j.out],(kql _ _).alloc (kqg _) _⟩
def aX (a b:Nat):List Nat:=if bN a b=true then cP a else []
def dJ (a b:Nat):Int:=if bN a b=true then 0 else 50
def Ee (a b:Nat) (e:Ending) (w':World):Prop:=∃A c,e=.returned (.tuple #[.slice A (aX a b).length c,.int .i64 (dJ a b)])/\RdY w' w'.heap.size A (aX a b)/\(aX a b).length<=c
theorem mi(h:bN a b=false):Ee a b (.returned (.tuple #[.slice none 0 0,.int .i64 50])) w':=by
 have c:aX a b=[]:=by simp[aX,h]
 have d:dJ a b=50:=by simp[dJ,h]
 exact⟨none,0,by rw[c,d];rfl,by rw[c];exact Rd.nil_,by rw[c];simp⟩
theorem BJ(h0:bN a b=true)(h:w'.ownsRow H 5 1 v (cP a).length ((cP a).flatMap aJ)):Ee a b (.returned (.tuple #[v,.int .i64 0])) w':=by
 have f:aX a b=cP a:=by simp[aX,h0]
 have i:dJ a b=0:=by simp[dJ,h0]
 have j:∃A c,v=.slice A (cP a).length c/\(cP a).length<=c:=by
  rcases h.2 with⟨rfl,e⟩|⟨g,cap,cur,rfl,_,_,d,_⟩
  .exact ⟨none,0,by rw[e],by omega⟩
  exact⟨_,_,rfl,d⟩
 obtain⟨A,c,rfl,d⟩:=j;exact⟨A,c,by rw[f,i],by rw[f];exact Rd.of_own h,by rw[f];exact d⟩
theorem jw(a b:Nat):bN a b=((decide (a%256<=8)&&dd (cP a))&&(gx (cP a)==a&&gc a==b)):=rfl
theorem uK(a k:Nat)(ha:a<18446744073709551616):bits BinOp.and .u64 ((a:Int)/2 ^ (8+2*k)) 3=((a/4 ^ (k+4)%4:Nat):Int):=by
 have c:(2:Nat) ^ (8+2*k)=4 ^ (k+4):=by rw[show 8+2*k=2*(k+4) by omega,Nat.pow_mul]
 have b:(a:Int)/2 ^ (8+2*k)=((a/4 ^ (k+4):Nat):Int):=by rw[<-c];simp
 have h:a/4 ^ (k+4)<18446744073709551616:=kkc (kkz _ _) ha;rw[b];exact sB (k:=2) (m:=3) h (by decide) (by omega)
theorem oo(p q a b:Int)(W:World):(Op.equalIn 10000 157 (.agg #[.int .u64 p,.int .u64 q]) (.agg #[.int .u64 a,.int .u64 b])).run prog W=.ok (p==a&&q==b) W:=by have g:=underlying157;have d:=underlying53;have f:(Op.equalIn 10000 157 (.agg #[.int .u64 p,.int .u64 q]) (.agg #[.int .u64 a,.int .u64 b]))=(Op.equalIn (9999+1) 157 (.agg #[.int .u64 p,.int .u64 q]) (.agg #[.int .u64 a,.int .u64 b])):=rfl;have h:List.range' 0 2=[0,1]:=rfl;have e1:=λ(x y:Int)=>run_equalIn_int W 9998 53 .u64 .u64 x y d;rw[f];unfold Op.equalIn;simp[go_sem,run_underlying g,Sem.run_bind,h,List.forIn_cons];by_cases c:p=a<;>by_cases e:q=b<;>simp[c,e,go_sem]
theorem pA(a b:Nat)(w:World)(ha:a<18446744073709551616)(hb:b<18446744073709551616):
 Calls prog 117 #[.int .u64 (a:Int),.int .u64 (b:Int)] w λe w'=>Ee a b e w'/\Below w.heap.size w w':=by
 have K:=hid (jw a b);have ha0:(0:Int)<=(a:Int):=by omega
 have e1:=(sG a ha).1;have n:=hid (ei a);have E:=hid (λk h=>ph a k h);have O:=hid (λk=>uK a k ha);have W:a%256<256:=kz3 _ (by omega);obtain⟨m,A⟩:=xq (a%256);rw[A] at e1 n E K W;by_cases h8:8<m
 .have X:=hid (show bN a b=false by rw[K.out,show decide (m<=8)=false by rw[kqh];omega];rfl);clear A ha hb;go_enter func117,ntmps117;go_wp2;go_ret2;exact⟨mi X.out,kql _ _⟩
 have J:m<=8:=by omega
 rw[show decide (m<=8)=true by rw[kqo];exact J] at K;have hx0:(0:Int)<=(m:Int):=by omega
 have HA:=hid ha;have X:=hid hb;have d8:decide ((8:Int)<(m:Int))=false:=by rw[kqh];omega
 clear A ha hb h8 W;obtain⟨i0,Y,D,I,G⟩:=kzt jl;have HI:=hid Y;have U:=hid D;have R:=hid I;have T:=hid G;clear Y D I G;go_enter func117,ntmps117;go_wp2_with fail;go_loopw [7,16] (λv i wr=>∃k:Nat,k<=m/\i=.int .u64 k/\wr.ownsRow w.heap.size 5 1 v k (((cP a).take k).flatMap aJ)/\Below w.heap.size w wr) (λ_ i _=>m-(intOf i).toNat)
 case atStart=>exact⟨0,kqy _,rfl,kq3 _ _ _ _,kql _ _⟩
 obtain⟨k,hk,rfl,c,y⟩:=hrel;have N:=y.size;by_cases C:k<m
 .have Q:=O.out k;have L:=E.out k C;obtain⟨x,S⟩:=xq (a/4 ^ (k+4)%4);have hx3:x<4:=by rw[<-S];exact kz3 _ (by omega)
  rw[S] at Q L;have F:=hid (show ((cP a).take (k+1)).flatMap aJ=((cP a).take k).flatMap aJ++[.int .u8 (x:Int)] by
   have Z:k<(cP a).length:=by rw[n.out];exact C
   rw[kqp Z,bP];rw[kqj Z] at L;rw[Option.some.inj L];rfl)
  have hxi:(x:Int)<4:=by omega
  have hx00:(0:Int)<=(x:Int):=by omega
  have hki:(k:Int)<(m:Int):=by omega
  clear S L;go_wp2_with (at_builtin;refine kzn _ rfl _ _ 113 rfl w.heap.size 5 i0 _ 1 1 underlying113 HI.out U.out R.out T.out rfl (by decide) _ _ _ rfl (c.alloc _) ⟨_,0,none⟩ 1 1 [.int .u8 (x:Int)] rfl rfl (bY _ _ _) (by simp[Value.oneCell']) (by unfold maxLen;omega) (by omega) (bM y.size) ?_;intro v1 M j V _;have f:=aw y y.size c V);go_roundw
  case rel=>exact⟨k+1,by omega,by go_num,by rw[F.out];exact j,f⟩
  case measure=>simp[intOf];omega
 obtain rfl:k=m:=by omega
 rw[kzg (by rw[n.out];exact kqg _)] at c;obtain⟨A1,c1,rfl⟩:=aE c;have z:=hid (tQ A1 (cP a) c1 k wr n.out (by omega) (Rd.of_own c));have g:(cP a).length<=8:=by rw[n.out];exact J
 cases l:dd (cP a)
 .have o:=hid (lk g l);have B:=hid (show bN a b=false by rw[K.out,l];rfl);have P:=hid (show kwV (cP a)=.agg #[.int .u64 0,.int .u64 0] by simp[kwV,o.out,yR]);rw[o.out,P.out] at z;clear l g c;go_wp2_with fail;refine z.out.mono ?_;rintro e M ⟨rfl,f⟩;have d:=y.trans (f.mono N);go_wp2;go_ret2;exact⟨mi B.out,d.alloc d.size _⟩
 have o:=hid (je g l);have P:=hid (show kwV (cP a)=.agg #[.int .u64 (gx (cP a):Nat),.int .u64 (gc (gx (cP a)):Nat)] by simp[kwV,o.out,yR]);have u:=hid (show bN a b=(gx (cP a)==a&&gc (gx (cP a))==b) by
  rw[K.out,l];by_cases h:gx (cP a)=a
  .rw[h];simp
  rw[show (gx (cP a)==a)=false by rw[kqi];exact h];simp only[kxy,kj3])
 rw[o.out,P.out] at z;obtain⟨p,hp⟩:=xq (gx (cP a));obtain⟨q,hq⟩:=xq (gc p);rw[hp,hq] at z u;clear l g hp hq;by_cases r:p=a
 .by_cases t:q=b
  .have HY:=hid (show bN a b=true by rw[u.out,r,t];simp);have s:=oo p q a b;rw[show ((p:Int)==(a:Int))=true by rw[kqx];omega,show ((q:Int)==(b:Int))=true by rw[kqx];omega,Bool.and_self] at s;clear r t;go_wp2_with fail;refine z.out.mono ?_;rintro e M ⟨rfl,f⟩;have d:=y.trans (f.mono N);have j:=aj c f (kqg _);go_wp2;go_ret2;refine⟨BJ HY.out (H:=w.heap.size) ?_,d.alloc d.size _⟩;rw[n.out];exact j.alloc _
  have B:=hid (show bN a b=false by rw[u.out,show (q==b)=false by rw[kqi];exact t,kj3]);have s:=oo p q a b;rw[show ((q:Int)==(b:Int))=false by rw[kqi];omega,kj3] at s;clear r t c;go_wp2_with fail;refine z.out.mono ?_;rintro e M ⟨rfl,f⟩;have d:=y.trans (f.mono N);go_wp2;go_ret2;exact⟨mi B.out,d.alloc d.size _⟩
 have B:=hid (show bN a b=false by rw[u.out,show (p==a)=false by rw[kqi];exact r,kxy]);have s:=oo p q a b;rw[show ((p:Int)==(a:Int))=false by rw[kqi];omega,kxy] at s;clear r c;go_wp2_with fail;refine z.out.mono ?_;rintro e M ⟨rfl,f⟩;have d:=y.trans (f.mono N);go_wp2;go_ret2;exact⟨mi B.out,d.alloc d.size _⟩
def FlRes (a b:Nat) (e:Ending) (w':World):Prop:=∃A c,e=.returned (.tuple #[.slice A (aX a b).length c,.bool (bN a b)])/\RdY w' w'.heap.size A (aX a b)/\(aX a b).length<=c
theorem mf(a b:Nat):(dJ a b==0)=bN a b:=by unfold dJ;cases bN a b<;>simp
theorem rO(A:Option Addr)(ws:List Nat)(c n t:Nat)(w:World)(hn:ws.length=n)(hm:n<=1000000)(h2:256<=n)(ht:t<8)(hr:RdW w w.heap.size A ws)(ho:∀x∈ws,x<18446744073709551616):
 Calls prog 110 #[.slice A n c,.int .i64 (t:Int)] w λe w'=>FlRes (wd ws (96+2*t)) (wd ws (96+2*t+1)) e w'/\Below w.heap.size w w':=by
 subst hn;have r:=fd ho (96+2*t);have s:=fd ho (96+2*t+1);have j:=hid (λW=>pA (wd ws (96+2*t)) (wd ws (96+2*t+1)) W r s);have l:=hid (mf (wd ws (96+2*t)) (wd ws (96+2*t+1)));obtain⟨b,a,rfl,u,q⟩:=RdW.at_ hr (show 96+2*t<ws.length by omega);obtain⟨b',off',z,-,k⟩:=RdW.at_ hr (show 96+2*t+1<ws.length by omega);cases z;rw[<-ce] at q k;obtain⟨x,i⟩:=xq (wd ws (96+2*t));obtain⟨y,f⟩:=xq (wd ws (96+2*t+1));rw[i] at q j l |-;rw[f] at k j l |-;have t0:(0:Int)<=(t:Int):=by omega
 have t8:(t:Int)<8:=by omega
 have w1:IntKind.i64.wrap (2*(t:Int))=2*(t:Int):=kqr _ (by omega);have w2:IntKind.i64.wrap (96+2*(t:Int))=96+2*(t:Int):=kqr _ (by omega);have w3:IntKind.i64.wrap (96+2*(t:Int)+1)=96+2*(t:Int)+1:=kqr _ (by omega);have i1:(0:Int)<=96+2*(t:Int):=by omega
 have i2:(96:Int)+2*(t:Int)<(ws.length:Int):=by omega
 have i3:(0:Int)<=96+2*(t:Int)+1:=by omega
 have i4:(96:Int)+2*(t:Int)+1<(ws.length:Int):=by omega
 have n1:((96:Int)+2*(t:Int)).toNat=96+2*t:=by omega
 have n2:((96:Int)+2*(t:Int)+1).toNat=96+2*t+1:=by omega
 clear hr r s i f ho ht;go_enter func110,ntmps110;go_wp2_with fail
 go_region_held3 (λX:World=>X.cell? ⟨b,a+(96+2*t),none⟩=some (.int .u64 (x:Int))/\X.cell? ⟨b,a+(96+2*t+1),none⟩=some (.int .u64 (y:Int))) (go_keep)
  (first | (go_at_call 117;refine (j.out _).mono ?_;rintro e w5 ⟨⟨B,v,rfl,h,g⟩,d⟩;have m0:=(d.cell (p:=⟨b,a+(96+2*t),none⟩) u).trans q;have m1:=(d.cell (p:=⟨b,a+(96+2*t+1),none⟩) u).trans k;have m:=hid h;have o:=hid g;clear h g))
 go_wp2;go_ret2;exact⟨⟨B,v,by rw[l.out];rfl,m.out,o.out⟩,(kql _ _).drew.trans d⟩
def GM (ws:List Nat) (e:Ending) (w':World):Prop:=∃A c,e=.returned (.tuple #[.slice A (aa ws).length c,.int .i64 (af ws)])/\RdB w' w'.heap.size A (aa ws)/\(aa ws).length<=c
theorem l5(hr:af ws=r)(h0:r≠0):GM ws (.returned (.tuple #[.slice none 0 0,.int .i64 r])) w':=by
 subst hr;have:aa ws=[]:=by simp[aa,h0]
 exact⟨none,0,by rw[this];rfl,by rw[this];exact Rd.nil_,by rw[this];simp⟩
theorem gC(h:al (ws.length:Int)=true):eP ws.length 128=false:=by have:=(ac _).1 h;simp only[eP,kzw,kqh,kqq];omega
theorem uH(h:bU ws 128=r)(h0:r≠0):af ws=r:=by
 subst h;cases a:al (ws.length:Int) with
 | false=>rw[mQ a,eZ a]
 | true =>
  cases b:blocks ws 128 with
  | none=>rw[xD a b,dV a (gC a) b]
  | some l=>exact absurd (cj a (gC a) b).1 h0
theorem BT(h:bU ws 128=0):al (ws.length:Int)=true/\blocks ws 128=some (aO ws 128):=by
 cases a:al (ws.length:Int) with
 | false=>rw[eZ a] at h;cases h
 | true =>
  cases b:blocks ws 128 with
  | none=>rw[dV a (gC a) b] at h;cases h
  | some l=>rw[(cj a (gC a) b).2];exact⟨rfl,rfl⟩
theorem tT(hk:k<l.length)(h:(l.take k).all (dm ws)=true)(h1:dm ws l[k]=true):(l.take (k+1)).all (dm ws)=true:=by rw[kqp hk,List.all_append,h];simp[h1]
theorem yB(hk:k<l.length)(h1:dm ws l[k]=false):l.all (dm ws)=false:=by
 cases a:l.all (dm ws) with
 | false=>rfl
 | true=>rw[kzq] at a;rw[a _ (kqm hk)] at h1;cases h1
theorem BS(h:bN a b=true):(aX a b).length=a%256:=by simp[aX,h,ei]
theorem iK{b:Bk}(hk:b.kind=1):dm ws b=(bN (wd ws (tyA b)) (wd ws (tyA b+1))&&b.size==((aP (aX (wd ws (tyA b)) (wd ws (tyA b+1))).length:Nat):Int)):=by
 unfold dm cD;rw[hk];cases a:bN (wd ws (tyA b)) (wd ws (tyA b+1)) with
 | false=>rfl
 | true=>rw[BS a];rfl
theorem dC{b:Bk}(hk:b.kind≠1):dm ws b=true:=by unfold dm;rw[show (b.kind != 1)=true by rw[kqt];exact hk];rfl
theorem gG{i:Nat}(h:blocks ws i=some l)(h2:i%2=0)(hk:k<l.length)(h1:l[k].kind=1):0<=l[k].typ/\l[k].typ<8:=by obtain⟨a,e,-,-,-,b,-⟩:=bH _ _ h h2 k hk;have h7:=(bn _).1 (eJ b);have e1:(bkAt ws a).kind=(ah (wd ws a)).kind:=rfl;have e2:(bkAt ws a).typ=(ah (wd ws a)).typ:=rfl;rw[e] at h1 |-;omega
theorem fP(ws:List Nat)(h:al (ws.length:Int)=true):256<=ws.length/\ws.length<=2048/\ws.length%8=0:=by have:=(ac _).1 h;omega
theorem Co(A:Option Addr)(ws:List Nat)(c n:Nat)(w:World)(hn:ws.length=n)(hm:n<=9223372036854775807)(I:RdW w w.heap.size A ws)(ho:∀x∈ws,x<18446744073709551616):
 Calls prog 62 #[.slice A n c] w λe w'=>GM ws e w'/\Below w.heap.size w w':=by
 subst hn;have HR:=hid I;have HO:=hid ho;have Jg:=hid (lG A ws c ws.length 128 w rfl hm I ho);clear I ho;cases E:al (ws.length:Int)
 .have HI:=hid (bA E);have HE:=hid (mQ E);clear E;go_enter func62,ntmps62;go_wp2_with fail;refine (aF A ws.length c w hm).mono ?_;rintro e w1 ⟨rfl,rfl⟩;rw[HI.out];go_wp2;go_ret2;exact⟨l5 HE.out (by omega),kql _ _⟩
 have HI:=hid (aW E);obtain⟨Jf,H,Jb⟩:=fP ws E;have HS:=hid E;clear E Jb;go_enter func62,ntmps62;go_wp2_with fail;refine (aF A ws.length c w hm).mono ?_;rintro e w1 ⟨rfl,rfl⟩;rw[HI.out];go_wp2_with fail;refine Jg.out.mono ?_;rintro e w1 ⟨⟨A1,c1,rfl,G,z⟩,f⟩;have o:=f.size;have Q:=gu ws 128;have a:Hid (bU ws 128=0->al (ws.length:Int)=true/\blocks ws 128=some (aO ws 128)):=hid BT;have F:Hid (∀r,bU ws 128=r->r≠0->af ws=r):=hid (λ_ h h0=>uH h h0);obtain⟨l,hl⟩:=xq (aO ws 128);rw[hl] at G z Q a |-;have M:=hid G;have Jh:=hid z;obtain⟨r,I⟩:=xq (bU ws 128);have Je:=hid I;rw[I] at a |-;clear I G z hl;by_cases j:r=0
 .subst j;have C:=hid (a.out rfl).2;clear a F;go_wp2_with fail;go_loopw [26] (λi wr=>∃k:Nat,k<=l.length/\i=.int .i64 k/\Hid ((l.take k).all (dm ws)=true)/\Below w1.heap.size w1 wr) (λi _=>l.length-(intOf i).toNat)
  case atStart=>exact⟨0,kqy _,rfl,rfl,kql _ _⟩
  obtain⟨k,hk,rfl,P,D⟩:=hrel;have hz:=D.size;by_cases q:k<l.length
  .obtain ⟨b,off,rfl,hbw,q0,q1,q2,q3,q4,q5⟩:=RdB.at_ (M.out.below D) q;have s:=hid (λh=>gG C.out (by omega) q h);have J:=hid (λh=>tT q P.out h);have L:=hid (λh=>qP HS.out C.out (yB q h));obtain⟨x,hx⟩:=xq (l[k]);rw[hx] at q0 q1 q2 q3 q4 q5 s J L;have u:=hid (λh=>iK (ws:=ws) (b:=x) h);have O:=hid (λh=>dC (ws:=ws) (b:=x) h);have X:tyA x=96+2*x.typ.toNat:=rfl;rw[X] at u;obtain⟨xa,xs,xk,xt,xm,xn⟩:=x;dsimp only at q0 q1 q2 q3 q4 q5 s u;have hlm:(k:Int)<(l.length:Int):=by omega
   clear hx X;have y:=Bx.new wr 55 #[.int .i64 xa,.int .i64 xs,.int .i64 xk,.int .i64 xt,.bool xm,.int .u64 (xn:Int)];by_cases d:xk=1
   .obtain ⟨t0,t8⟩:=s.out d;obtain⟨t,rfl⟩:=kq5 t0;have v:=hid (u.out d);simp only[kqk] at v;subst d;have HC:=hid (λW (h:RdW W W.heap.size A ws)=>rO A ws c ws.length t W rfl (by omega) Jf (by omega) h HO.out);have hz1w:=o;have Jc:=hid ((((HR.out.up f o).up D hz).alloc (kqg _) (.cells #[.int .i64 xa,.int .i64 xs,.int .i64 1,.int .i64 (t:Int),.bool xm,.int .u64 (xn:Int)] 55)).more (B':=(wr.alloc (.cells #[.int .i64 xa,.int .i64 xs,.int .i64 1,.int .i64 (t:Int),.bool xm,.int .u64 (xn:Int)] 55)).heap.size) (by simp));obtain⟨T,R⟩:=xq (wd ws (96+2*t));obtain⟨Z,S⟩:=xq (wd ws (96+2*t+1));rw[R,S] at HC v;clear y R S u O s;go_wp2_with fail;refine (HC.out _ Jc.out).mono ?_;rintro e w2 ⟨⟨A2,c2,rfl,V,U⟩,p⟩;rw[kqn] at p;have Y:=Bx.of_new p;have H:=D.trans ((au p).mono hz);obtain⟨c0,c1',c2',c3,c4,c5,cf,cz⟩:=Y.c6;have K:=hid H;clear V U Y p H cf;obtain⟨ok,N⟩:=xq (bN T Z);obtain⟨m,B⟩:=xq ((aX T Z).length);have hm8:m<=255:=by
     rw[<-B];unfold aX;split
     .rw[ei];have:=kz3 T (show 0<256 by omega);omega
     simp
    rw[N,B] at v |-;clear N B;cases ok
    .have HB:=hid (L.out (by rw[v.out];rfl));go_wp2;go_ret2;exact⟨l5 HB.out (by omega),f.trans (K.out.mono o)⟩
    rw[kzx] at v;have Ja:((aP m:Nat):Int)=((m:Int)+3)/2*2:=by unfold aP;omega
    rw[Ja] at v;by_cases g:xs=((m:Int)+3)/2*2
    .have Jd:(xs != ((m:Int)+3)/2*2)=false:=by rw[kqq];exact g
     have HY:=hid (J.out (by rw[v.out,kqx];exact g));clear g;go_wp2;go_roundw
     case rel=>exact⟨k+1,by omega,by go_num,HY.out,K.out⟩
     case measure=>simp[intOf];omega
    have Jd:(xs != ((m:Int)+3)/2*2)=true:=by rw[kqt];exact g
    have HB:=hid (L.out (by rw[v.out,kqi];exact g));clear g;go_wp2;go_ret2;exact⟨l5 HB.out (by omega),f.trans (K.out.mono o)⟩
   have hk2:(xk != 1)=true:=by rw[kqt];exact d
   have HY:=hid (J.out (O.out d));clear d y;go_wp2;go_roundw
   case rel=>exact⟨k+1,by omega,by go_num,HY.out,D.alloc hz _⟩
   case measure=>simp[intOf];omega
  have HP:=hid (eV HS.out C.out (by have:=P.out;rwa [kzg (by omega)] at this));go_wp2;go_ret2;exact⟨⟨A1,c1,by rw[HP.out.1,HP.out.2];rfl,by rw[HP.out.2];exact M.out.up D hz,by rw[HP.out.2];exact Jh.out⟩,f.trans (D.mono o)⟩
 have hn1:(r != 0)=true:=by rw[kqt];exact j
 have HN:=hid (F.out r Je.out j);have Eq:=hid j;clear j a F;go_wp2;go_ret2;exact⟨l5 HN.out Eq.out,f⟩
theorem lY(A:Option Addr)(ws:List Nat)(c n:Nat)(w:World)(hn:ws.length=n)(hm:n<=9223372036854775807)(a:RdW w w.heap.size A ws)(ho:∀x∈ws,x<18446744073709551616):
 Calls prog 162 #[.slice A n c] w λe w'=>e=.returned (.int .i64 (af ws))/\Below w.heap.size w w':=by have f:=hid (Co A ws c n w hn hm a ho);clear a ho hn;obtain⟨r,a⟩:=xq (af ws);have d:=hid a;rw[a];clear a;go_enter func162,ntmps162;go_wp2_with fail;refine f.out.mono ?_;rintro e w1 ⟨⟨A1,c1,rfl,-,-⟩,b⟩;go_wp2;go_ret;exact⟨by rw[<-d.out];rfl,b⟩
theorem rE(hk:k<l.length):dG (l.take (k+1))=dG (l.take k)++(if l[k].mark=true then [l[k].at_] else []):=by rw[kqp hk];unfold dG;rw[kjl,kxa];cases h:l[k].mark<;>simp[h]
theorem EH(l:List Bk):(dG l).length<=l.length:=by unfold dG;rw[kqs];exact kxi _ _
theorem fe(ws:List Nat):(aa ws).length<=1024:=by
 unfold aa;split
 .rename_i h;obtain⟨b,l,a,-⟩:=ao h;have hb:=(ac _).1 b;have:=(bq (by omega) _ _ a (by omega) (by omega) (by omega)).1;rw[a];simp only[kq2];omega
 simp
theorem jh{n:Nat}{e:TypeId}{sz:Nat}{xs:List Value}(h:w'.ownsRow H e sz v n xs):∃A c,v=.slice A n c/\n<=c/\Rd w' w'.heap.size A xs:=by
 have b:∃A c,v=.slice A n c/\n<=c:=by
  rcases h.2 with⟨rfl,hnil⟩|⟨g,cap,cur,rfl,_,_,a,_⟩
  .have h0:n=0\/0<n:=by omega
   exact⟨none,0,by
    have:=aE h;obtain⟨A,c,e⟩:=this;injection e with _ e2 _;rw[<-e2],by
    have:=aE h;obtain⟨A,c,e⟩:=this;injection e with _ e2 _;omega⟩
  exact⟨_,_,rfl,a⟩
 obtain⟨A,c,rfl,a⟩:=b;exact⟨A,c,rfl,a,Rd.of_own h⟩
theorem vd(ws:List Nat)(xa xs xk:Int)(t:Nat)(xm:Bool)(xn:Nat):cD ws ⟨xa,xs,xk,(t:Int),xm,xn⟩=(bN (wd ws (96+2*t)) (wd ws (96+2*t+1))&&xs==((aP (aX (wd ws (96+2*t)) (wd ws (96+2*t+1))).length:Nat):Int)):=by have h:=iK (ws:=ws) (b:=⟨xa,xs,1,(t:Int),xm,xn⟩) rfl;unfold dm at h;exact h
theorem kD(a b:Nat):b8 (aX a b)=0:=by
 unfold aX;split
 .rename_i h;unfold bN at h;simp only[kqz,kzz] at h;exact je (by rw[ei];exact h.1.1) h.1.2
 rfl
theorem kb(a b:Nat):(aX a b).length<=8:=(jB (kD a b)).1
theorem yJ(A:Option Addr)(ws:List Nat)(c n t:Nat)(xa xs xk:Int)(xm:Bool)(xn:Nat)(w:World)(hn:ws.length=n)(hm:n<=1000000)(h2:256<=n)(ht:t<8)(B:RdW w w.heap.size A ws)(ho:∀x∈ws,x<18446744073709551616):
 Calls prog 216 #[.slice A n c,.agg #[.int .i64 xa,.int .i64 xs,.int .i64 xk,.int .i64 (t:Int),.bool xm,.int .u64 (xn:Int)]] w λe w'=>e=.returned (.bool (cD ws ⟨xa,xs,xk,(t:Int),xm,xn⟩))/\Below w.heap.size w w':=by
 subst hn;have Z:=fd ho (96+2*t);have hy:=fd ho (96+2*t+1);have a:=hid (vd ws xa xs xk t xm xn);have R:=hid (λW=>pA (wd ws (96+2*t)) (wd ws (96+2*t+1)) W Z hy);have Q:=hid (mf (wd ws (96+2*t)) (wd ws (96+2*t+1)));have o:=kb (wd ws (96+2*t)) (wd ws (96+2*t+1));have h:=hid (kD (wd ws (96+2*t)) (wd ws (96+2*t+1)));obtain⟨b,d,rfl,hb,v⟩:=RdW.at_ B (show 96+2*t<ws.length by omega);obtain⟨b',off',e',-,k⟩:=RdW.at_ B (show 96+2*t+1<ws.length by omega);cases e';rw[<-ce] at v k;obtain⟨x,N⟩:=xq (wd ws (96+2*t));obtain⟨y,G⟩:=xq (wd ws (96+2*t+1));obtain⟨q,J⟩:∃q,cD ws ⟨xa,xs,xk,(t:Int),xm,xn⟩=q:=⟨_,rfl⟩;rw[N] at v R Q a h o;rw[G] at k R Q a h o;rw[J] at a |-;have t0:(0:Int)<=(t:Int):=by omega
 have t8:(t:Int)<8:=by omega
 have w1:IntKind.i64.wrap (2*(t:Int))=2*(t:Int):=kqr _ (by omega);have w2:IntKind.i64.wrap (96+2*(t:Int))=96+2*(t:Int):=kqr _ (by omega);have w3:IntKind.i64.wrap (96+2*(t:Int)+1)=96+2*(t:Int)+1:=kqr _ (by omega);have i1:(0:Int)<=96+2*(t:Int):=by omega
 have i2:(96:Int)+2*(t:Int)<(ws.length:Int):=by omega
 have i3:(0:Int)<=96+2*(t:Int)+1:=by omega
 have i4:(96:Int)+2*(t:Int)+1<(ws.length:Int):=by omega
 have n1:((96:Int)+2*(t:Int)).toNat=96+2*t:=by omega
 have n2:((96:Int)+2*(t:Int)+1).toNat=96+2*t+1:=by omega
 obtain⟨cs,S⟩:∃cs,cs=#[Value.int .i64 xa,.int .i64 xs,.int .i64 xk,.int .i64 (t:Int),.bool xm,.int .u64 (xn:Int)]:=⟨_,rfl⟩;have P:=Bx.new w 55 #[.int .i64 xa,.int .i64 xs,.int .i64 xk,.int .i64 (t:Int),.bool xm,.int .u64 (xn:Int)];have f:=(kql w.heap.size w).alloc (kqg _) (.cells #[.int .i64 xa,.int .i64 xs,.int .i64 xk,.int .i64 (t:Int),.bool xm,.int .u64 (xn:Int)] 55);replace v:=(f.cell (p:=⟨b,d+(96+2*t),none⟩) hb).trans v;replace k:=(f.cell (p:=⟨b,d+(96+2*t+1),none⟩) hb).trans k;have H:(w.alloc (.cells #[.int .i64 xa,.int .i64 xs,.int .i64 xk,.int .i64 (t:Int),.bool xm,.int .u64 (xn:Int)] 55)).heap.size=w.heap.size+1:=by simp
 clear B Z hy N G ho ht J S;go_enter func216,ntmps216;go_wp2_with fail;obtain⟨s,O⟩:∃s,w.alloc (.cells #[.int .i64 xa,.int .i64 xs,.int .i64 xk,.int .i64 (t:Int),.bool xm,.int .u64 (xn:Int)] 55)=s:=⟨_,rfl⟩;rw[O] at v k P f H |-;clear O;have b3:s.cell? ⟨w.heap.size,3,none⟩=some (.int .i64 (t:Int)):=P.cell 3;have M:b<s.heap.size:=by omega
 have I:w.heap.size<s.heap.size:=by omega
 have BX:=hid P;have E:=hid f;clear P f H
 go_region_held3 (λX:World=>X.cell? ⟨b,d+(96+2*t),none⟩=some (.int .u64 (x:Int))/\X.cell? ⟨b,d+(96+2*t+1),none⟩=some (.int .u64 (y:Int))/\X.cell? ⟨w.heap.size,3,none⟩=some (.int .i64 (t:Int))) (go_keep)
  (first | (go_at_call 117;refine (R.out _).mono ?_;rintro e U ⟨⟨A1,c1,rfl,K,T⟩,j⟩;have m0:=(j.cell (p:=⟨b,d+(96+2*t),none⟩) M).trans v;have m1:=(j.cell (p:=⟨b,d+(96+2*t+1),none⟩) M).trans k;have m2:=(j.cell (p:=⟨w.heap.size,3,none⟩) I).trans b3;have Y:=hid K;have l:=hid j;clear K T))
 have u:=rY A1 (aX x y) c1 (aX x y).length U.heap.size U rfl (by omega) Y.out;have D:kSz (aX x y)=aP (aX x y).length:=by simp[kSz,h.out]
 rw[h.out,D] at u;have i:=hid u;have F:aP (aX x y).length<=10:=by unfold aP;omega
 have c1x:U.cell? ⟨w.heap.size,1,none⟩=some (.int .i64 xs):=(l.out.cell (p:=⟨w.heap.size,1,none⟩) I).trans (BX.out.cell 1);obtain⟨m,L⟩:=xq ((aX x y).length);rw[L] at a i o F |-;obtain⟨z,hz⟩:=xq (aP m);rw[hz] at i a F;have g:Hid (dJ x y=if bN x y=true then 0 else 50):=hid rfl;obtain⟨r,B⟩:=xq (dJ x y);obtain⟨V,C⟩:=xq (bN x y);rw[B] at g Q |-;rw[C] at g a Q;clear B C u D L hz m0 m1 m2 v k b3;cases V
 .obtain rfl:r=50:=g.out;go_wp2_with fail;refine i.out.mono ?_;rintro e w6 ⟨rfl,rfl⟩;go_wp2;go_ret;exact⟨by rw[a.out];rfl,E.out.trans ((kql _ _).drew.trans (l.out.mono (by show _<=s.heap.size;omega)))⟩
 obtain rfl:r=0:=g.out;rw[kzx] at a;go_wp2_with fail;refine i.out.mono ?_;rintro e w6 ⟨rfl,rfl⟩;go_wp2;go_ret;exact⟨by rw[a.out];rfl,E.out.trans ((kql _ _).drew.trans (l.out.mono (by show _<=s.heap.size;omega)))⟩
theorem dp:(prog.info? 89).map (λi=>(i.zero,i.size,i.bytes))=some (some (.agg #[.int .i64 0,.int .u64 0]),2,16):=by kernel_rfl
def aH (ws:List Nat):List En:=if af ws=0 then aN (aa ws) 128 else []
theorem eY(h:af ws=0):bU ws 128=0/\aO ws 128=aa ws/\dD (aa ws) 128=0/\blocks ws 128=some (aa ws):=by obtain⟨a,l,c,h3,b⟩:=ao h;obtain⟨d,e⟩:=cj a (gC a) (l:=l) c;have hb:=(ac _).1 a;refine⟨d,by rw[e,b],?_,by rw[c,b]⟩;rw[b];exact kz (i:=128) (by omega) c (by omega) (by omega) (by omega) (s:=128) (by omega) (by omega) (by omega)
theorem xB(hk:k<l.length)(s:Int):aN (l.take (k+1)) s=aN (l.take k) s++(if l[k].kind=1/\l[k].next≠bo l[k] (aI (l.take k) s) then [⟨l[k].at_+1,bo l[k] (aI (l.take k) s)⟩] else []):=by rw[kqp hk,rD];simp[aN]
theorem mw(l:List Bk):∀s,(aN l s).length<=l.length:=by
 induction l with
 | nil=>intro s;exact kqg _
 | cons b l ih =>intro s;have:=ih (d7 b s);simp only[aN,kqw,kzc];split<;>simp<;>omega
theorem tW(h:dD l s=0)(hk:k<l.length):∃a:k<(i9 l s).length,(i9 l s)[k]=((bo l[k] (aI (l.take k) s):Nat):Int)/\bo l[k] (aI (l.take k) s)<=2048:=by
 have d:i9 l s=bg l s:=by simp[i9,h]
 have e:k<(i9 l s).length:=by rw[d,cI];exact hk
 refine⟨e,?_,?_⟩
 .have:=tD (l:=l) (s:=s) hk;rw[bB l k hk,<-d,kqj e] at this;rw[Option.some.inj this];obtain⟨b,a,c,_⟩:=dT h;have f:=kC b (kjq hk) a c;unfold bo;split<;>omega
 obtain⟨b,a,c,_⟩:=dT h;have f:=kC b (kjq hk) a c;unfold bo;split<;>omega
theorem va(h:dD l s=0)(hk:k<l.length):128<=l[k].at_/\l[k].at_<=2048/\2<=l[k].size/\l[k].size<=2048:=by obtain⟨a,_⟩:=dT h;have:=(dH _).1 (dj (cN a).2 hk).1;rw[bB l k hk] at this;omega
theorem tE(A:Option Addr)(ws:List Nat)(c n:Nat)(w:World)(hn:ws.length=n)(hm:n<=9223372036854775807)(I:RdW w w.heap.size A ws)(ho:∀x∈ws,x<18446744073709551616):
 Calls prog 143 #[.slice A n c] w λe w'=>io w.heap.size (af ws) (aH ws) e w'/\Below w.heap.size w w':=by
 have HC:=hid (lY A ws c n w hn hm I ho);have HF:=hid (λW (h:RdW W W.heap.size A ws)=>lG A ws c n 128 W hn hm h ho);have HR:=hid I;have K:Hid (af ws=0->bU ws 128=0/\aO ws 128=aa ws/\dD (aa ws) 128=0/\blocks ws 128=some (aa ws)):=hid eY;have X:=fe ws;clear I ho hn;by_cases y:af ws=0
 .obtain ⟨g1,g2,g3,g4⟩:=K.out y;have P:=hid (show aH ws=aN (aa ws) 128 by simp[aH,y]);have HE:=hid y;rw[y] at HC;unfold pM at HF;rw[g1,g2] at HF;obtain⟨l,hl⟩:=xq (aa ws);rw[hl] at HF X P g3;have z:=hid g3;have F:=hid (λ(A2:Option Addr) (c2:Nat) (W:World) (h:RdB W W.heap.size A2 l)=>ub A2 l c2 l.length 128 W rfl (by omega) h (by omega));unfold Bu at F;rw[g3] at F;clear y g1 g2 g3 g4 hl K;obtain⟨i0,hi,L,o,q⟩:=kzt dp;have HI:=hid hi;have Jh:=hid L;have Jf:=hid o;have Jb:=hid q;clear hi L o q;go_enter func143,ntmps143;go_wp2_with fail;refine HC.out.mono ?_;rintro e w1 ⟨rfl,j⟩;have o:=j.size;go_wp2_with fail;refine (HF.out _ (HR.out.up j o)).mono ?_;rintro e w2 ⟨⟨A1,c1,rfl,T,-⟩,H⟩;have V:=j.trans (H.mono o);have q:=V.size;have D:=hid T;clear T;go_wp2_with fail;refine (F.out A1 c1 _ D.out).mono ?_;rintro e w3 ⟨⟨A2,c2,rfl,R,-⟩,C⟩;have G:=V.trans (C.mono q);have Ji:=G.size;have U:=hid R;have M:=hid (D.out.up C C.size);clear R D;obtain⟨pl,f⟩:=xq (i9 l 128);have HPE:=hid f;rw[f] at U |-;have g:pl.length=l.length:=by rw[<-f];simp[i9,z.out,cI]
  have Y:=hid (λk (hk:k<l.length)=>tW z.out hk);rw[f] at Y;have HPL2:=hid g;rw[g];clear f g;go_wp2_with fail;go_loopw [9,30] (λv i wr=>∃k:Nat,k<=l.length/\i=.int .i64 k/\wr.ownsRow w3.heap.size 89 2 v (aN (l.take k) 128).length ((aN (l.take k) 128).flatMap En.cells)/\Below w3.heap.size w3 wr) (λ_ i _=>l.length-(intOf i).toNat)
  case atStart=>exact⟨0,kqy _,rfl,kq3 _ _ _ _,kql _ _⟩
  obtain⟨k,hk,rfl,a,E⟩:=hrel;have hz:=E.size;by_cases t:k<l.length
  .obtain ⟨b,off,rfl,hbw,q0,q1,q2,q3,q4,q5⟩:=RdB.at_ (M.out.below E) t;obtain⟨Jd,Z,Jj⟩:=Y.out k t;obtain⟨b2,Q,rfl,hbw2,p0⟩:=RdI.at_ (U.out.below E) Jd;rw[Z] at p0;have d:=hid (xB t 128);have B:=mw (l.take k) 128;rw[kq6] at B;have N:=va z.out t;obtain⟨m,O⟩:=xq (aN (l.take k) 128);rw[O] at a d B;obtain⟨v,hv⟩:=xq (bo l[k] (aI (l.take k) 128));rw[hv] at Jj p0 d;obtain⟨x,hx⟩:=xq (l[k]);rw[hx] at q0 q1 q2 q3 q4 q5 d N;obtain⟨xa,xs,xk,xt,xm,S⟩:=x;dsimp only at q0 q1 q2 q3 q4 q5 d N;have hlm:(k:Int)<(l.length:Int):=by omega
   have hml2:m.length<=1024:=by omega
   have Eq:b2<wr.heap.size:=by omega
   have p0':=(kq4 wr (.cells #[.int .i64 xa,.int .i64 xs,.int .i64 xk,.int .i64 xt,.bool xm,.int .u64 (S:Int)] 55) ⟨b2,Q+k,none⟩ Eq).trans p0;have hv2:(v:Int)<=2048:=by omega
   have hv0:(0:Int)<=(v:Int):=by omega
   clear hx O B hv Z;by_cases s:xk=1
   .subst s;by_cases u:S=v
    .have Ja:((S:Int) != (v:Int))=false:=by rw[kqq];omega
     have p:=hid (show aN (l.take (k+1)) 128=m by rw[d.out,if_neg (λh=>h.2 u)];simp);clear d u;go_wp2;go_roundw
     case rel=>exact⟨k+1,by omega,by go_num,by rw[p.out];exact a.alloc _,E.alloc hz _⟩
     case measure=>simp[intOf];omega
    have Ja:((S:Int) != (v:Int))=true:=by rw[kqt];omega
    have p:=hid (show aN (l.take (k+1)) 128=m++[⟨xa+1,v⟩] by rw[d.out,if_pos ⟨rfl,u⟩]);clear d u;go_wp2_with (at_builtin;refine kzn _ rfl _ _ 26 rfl w3.heap.size 89 i0 _ 2 16 underlying26 HI.out Jh.out Jf.out Jb.out rfl (by decide) _ _ _ rfl ((a.alloc _).alloc _) ⟨_,0,none⟩ 1 1 [.int .i64 (xa+1),.int .u64 (v:Int)] rfl rfl (kU _ _ _ (kqn _ _)) (by simp[Value.oneCell']) (by unfold maxLen;omega) (by omega) (by simp;omega) ?_;intro v1 w2 J Je _;have H:=aw (E.alloc hz (.cells #[.int .i64 xa,.int .i64 xs,.int .i64 1,.int .i64 xt,.bool xm,.int .u64 (S:Int)] 55)) (by simp;omega) (a.alloc _) Je);go_roundw
    case rel=>exact⟨k+1,by omega,by go_num,by rw[p.out,kqw,bP];exact J,H⟩
    case measure=>simp[intOf];omega
   have hk2:(xk==1)=false:=by rw[kqi];exact s
   have p:=hid (show aN (l.take (k+1)) 128=m by rw[d.out,if_neg (λh=>s h.1)];simp);clear d s;go_wp2;go_roundw
   case rel=>exact⟨k+1,by omega,by go_num,by rw[p.out];exact a.alloc _,E.alloc hz _⟩
   case measure=>simp[intOf];omega
  rw[kzg (by omega)] at a;obtain⟨A4,c4,rfl⟩:=aE a;have Jg:=hid (aB a G.size);clear a;go_wp2;go_ret2;exact⟨⟨A4,c4,by rw[P.out,HE.out];rfl,by rw[P.out];exact Jg.out⟩,G.trans (E.mono Ji)⟩
 have Jc:(af ws != 0)=true:=by rw[kqt];exact y
 have P:=hid (show aH ws=[] by simp[aH,y]);obtain⟨r,I⟩:=xq (af ws);have HE:=hid I;rw[I] at HC Jc;clear y I K;go_enter func143,ntmps143;go_wp2_with fail;refine HC.out.mono ?_;rintro e w1 ⟨rfl,j⟩;go_wp2;go_ret2;exact⟨bu HE.out P.out,j⟩
end Go.Proofs.YtpcajamacpbjcaaGreat
