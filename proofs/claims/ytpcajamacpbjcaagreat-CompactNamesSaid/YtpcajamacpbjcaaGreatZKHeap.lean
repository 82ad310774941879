/- Texts laid together: Knd KndW KndR Mrk Mrk2 Fwt Fww. -/
import Derived.Test.YtpcajamacpbjcaaGreatZKPlain
import Derived.Test.YtpcajamacpbjcaaGreatZKHead
import Derived.Deep.RegionHeld3
import Derived.Deep.DrawnRows
import Derived.Test.YtpcajamacpbjcaaGreatZKPlace
set_option maxHeartbeats 16000000
set_option maxRecDepth 100000
set_option linter.all false
namespace Go.Proofs.YtpcajamacpbjcaaGreat
open Lib (hid)
open Go.RowKit
variable {r s:Int}{l:List Bk}{ws:List Nat}{H a b k:Nat}{v:Value}{w':World}
open Go.Proofs.Tryz
def cc (x:Nat):List Value:=[.int .u8 (x:Int)]
theorem po(x:Nat):(cc x).length=1:=rfl
def RdY (w:World) (B:Nat) (A:Option Addr) (l:List Nat):Prop:=Rd w B A (l.flatMap cc)
theorem RdY.at_{w:World}{B:Nat}{A:Option Addr}{l:List Nat}(h:RdY w B A l)(hk:k<l.length):
 ∃b a,A=some ⟨b,a,none⟩/\b<B/\w.cell? ⟨b,a+k,none⟩=some (.int .u8 (l[k]:Int)):=by obtain⟨b,a,e,c,d⟩:=Rd.at_flat po h (by omega) hk;have:=d 0 (by omega);simp only[kxh,kz8] at this;exact⟨b,a,e,c,this⟩
theorem vJ{l:List Nat}(hk:k<l.length)(h:eV (l.take k)=true)(h1:1<=l[k])(h2:l[k]<=3):eV (l.take (k+1))=true:=by
 rw[kqn hk];rw[cQ] at h |-;intro x a;rw[kzu] at a;rcases a with a|a
 .exact h x a
 simp only[kqt,kzb,or_false] at a;subst a;exact⟨h1,h2⟩
theorem tw(A:Option Addr)(l:List Nat)(c n B:Nat)(w:World)(hn:l.length=n)(hm:n<=9223372036854775807)(hr:RdY w B A l):
 Calls prog 118 #[.slice A n c] w λe w'=>e=.returned (.int .i64 (cI l))/\w=w':=by
 subst hn;have y:=hid hr;clear hr;by_cases r:8<l.length
 .have s:=hid (rY r);go_enter func118,ntmps118;go_wp2;go_ret;exact⟨by rw[s.out];rfl,rfl⟩
 have d:l.length<=8:=by omega
 have o:Hid (eV l=false->cI l=8):=hid λh=>ll d h;have u:Hid (eV l=true->cI l=0):=hid λh=>jr d h;clear r;go_enter func118,ntmps118;go_wp2_with fail
 go_loop [10] (λi=>∃k:Nat,k<=l.length/\i=.int .i64 k/\Hid (eV (l.take k)=true)) (λi=>l.length-(intOf i).toNat)
 case atStart=>exact⟨0,kqy _,rfl,rfl⟩
 obtain⟨k,hk,rfl,p⟩:=hrel;by_cases a:k<l.length
 .obtain ⟨b,off,rfl,hb,v⟩:=y.out.at_ a;have q:=hid (λg f=>vJ a p.out g f);have j:=hid (λh=>xD a h);obtain⟨x,m⟩:=xq (l[k]);rw[m] at v q j;clear m;by_cases g:x<1
  .have E:=hid (o.out (j.out (.inl g)));go_wp2;go_ret;exact⟨by rw[E.out];rfl,rfl⟩
  by_cases f:3<x
  .have E:=hid (o.out (j.out (.inr f)));go_wp2;go_ret;exact⟨by rw[E.out];rfl,rfl⟩
  have t:1<=x:=by omega
  have z:x<=3:=by omega
  clear g f;go_wp2_with fail
  go_round
  case rel=>exact⟨k+1,by omega,by go_num,q.out t z⟩
  case measure=>simp[intOf];omega
 have E:=hid (u.out (by have:=p.out;rwa [kq5 (by omega)] at this));go_wp2;go_ret;exact⟨by rw[E.out];rfl,rfl⟩
def kSz (l:List Nat):Nat:=if cI l=0 then bZ l.length else 0
theorem sH(A:Option Addr)(l:List Nat)(c n B:Nat)(w:World)(hn:l.length=n)(hm:n<=9223372036854775807)(hr:RdY w B A l):
 Calls prog 158 #[.slice A n c] w λe w'=>e=.returned (.tuple #[.int .i64 (kSz l:Nat),.int .i64 (cI l)])/\w=w':=by
 have d:=hid (tw A l c n B w hn hm hr);clear hr;by_cases a:cI l=0
 .have f:=(jW a).1;have b:=hid (show ((kSz l:Nat):Int)=2+((n:Int)+1)/2*2 by simp only[kSz,a,if_true,bZ,hn];omega);rw[hn] at f;rw[a] at d;have g:=hid a;clear a hn;go_enter func158,ntmps158;go_wp2_with fail;refine d.out.mono ?_;rintro e h ⟨rfl,rfl⟩;go_wp2;go_ret2;exact⟨by rw[b.out,g.out];rfl,rfl⟩
 have b:=hid (show kSz l=0 by simp[kSz,a]);have hne:(cI l != 0)=true:=by rw[kqu];exact a
 clear a hn;go_enter func158,ntmps158;go_wp2_with fail;refine d.out.mono ?_;rintro e h ⟨rfl,rfl⟩;go_wp2;go_ret2;exact⟨by rw[b.out];rfl,rfl⟩
def A8 (a b:Nat):Value:=.agg #[.int .u64 (a:Int),.int .u64 (b:Int)]
def kwV (l:List Nat):Value:=if cI l=0 then A8 (iN l) (iX (iN l)) else A8 0 0
def fw (l:List Nat) (k:Nat):Nat:=l.length+qZ (l.take k) 4
theorem kj{fn:Func}{p q:Tmp}(h:fn.results=#[.cell p 157,.tmp q])(tmps:Array Value){W:World}{g:Nat}{t:TypeId}{v0 v1 u:Value}(hb:Bx W g t #[v0,v1])(hp:tmps.getD p undef=.pointer (some ⟨g,0,none⟩))(hq:tmps.getD q undef=u):
 (results fn tmps).run prog W=.ok (.tuple #[.agg #[v0,v1],u]) W:=by obtain⟨b,a,-⟩:=hb.c2;rw[kxl] at hp hq;simp[results,h,hp,hq,go_sem,b,a]
theorem fw_lt{l:List Nat}(h:l.length<=8)(hk:eV l=true)(k:Nat):fw l k<4 ^ (4+k):=by
 have h1:=sj (l.take k) 4 (λx a=>((cQ l).1 hk x (kx0 a)).2);have h2:4 ^ (4+(l.take k).length)<=4 ^ (4+k):=kxz (by omega) (by rw[kq3];omega);have h4:(4:Nat) ^ 4=256:=by decide
 unfold fw;omega
theorem FL{l:List Nat}{x:Nat}(h:l.length<=8)(hk:eV l=true)(hlt:k<l.length)(hx:l[k]=x):
 bits BinOp.or .u64 (fw l k:Nat) (IntKind.u64.wrap ((x:Int)*2 ^ (8+2*k)))=((fw l (k+1):Nat):Int):=by
 have a:x<=3:=by rw[<-hx];exact ((cQ l).1 hk l[k] (kqp hlt)).2
 have c:=fw_lt h hk k;have b:(2:Nat) ^ (8+2*k)=4 ^ (4+k):=by rw[show 8+2*k=2*(4+k) by omega,Nat.pow_mul]
 have hp:(4:Nat) ^ (4+k)<=4 ^ 11:=kxz (by omega) (by omega);have h11:(4:Nat) ^ 11=4194304:=by decide
 have hb:x*2 ^ (8+2*k)<=3*4194304:=by rw[b];exact kz1 (kxn _ a) (by omega)
 have d:(x:Int)*2 ^ (8+2*k)=((x*2 ^ (8+2*k):Nat):Int):=by simp
 rw[d,kz0 _ (by omega),u64_or_nat _ _ (by omega) (by omega),j9 (by rw[b];exact c)];have e:fw l (k+1)=fw l k+x*4 ^ (4+k):=by unfold fw;rw[kqn hlt,sw,hx,kq3,kxa (by omega)];simp only[qZ];omega
 rw[e,b]
theorem fw_end(l:List Nat):fw l l.length=iN l:=by unfold fw iN;rw[kzf]
theorem te(A:Option Addr)(l:List Nat)(c n:Nat)(w:World)(hn:l.length=n)(hm:n<=9223372036854775807)(hr:RdY w w.heap.size A l):
 Calls prog 175 #[.slice A n c] w λe w'=>e=.returned (.tuple #[kwV l,.int .i64 (cI l)])/\Below w.heap.size w w':=by
 subst hn;have U:=hid hr;have F:=Bx.new w 157 #[.int .u64 0,.int .u64 0];have K:=hid (tw A l c l.length w.heap.size (w.alloc (.cells #[.int .u64 0,.int .u64 0] 157)) rfl hm (hr.alloc (kqa _) _));by_cases a:cI l=0
 .have H:=jW a;obtain⟨B,m⟩:=H;have f:=hid m;have E:=hid (show kwV l=.agg #[.int .u64 (iN l:Nat),.int .u64 (iX (iN l):Nat)] by simp[kwV,a,A8]);have S:=hid a;rw[a] at K;have N:=hid F;clear a m F hr;go_enter func175,ntmps175;go_wp2_with fail;refine K.out.mono ?_;rintro e R ⟨rfl,rfl⟩;go_wp2_with fail
  go_loop [5,21] (λs i=>∃k:Nat,k<=l.length/\i=.int .i64 k/\s=.int .u64 (fw l k:Nat)) (λ_ i=>l.length-(intOf i).toNat)
  case atStart=>exact⟨0,kqy _,rfl,by simp[fw,qZ]⟩
  obtain⟨k,hk,rfl,rfl⟩:=hrel;by_cases g:k<l.length
  .obtain ⟨b,M,rfl,T,a⟩:=U.out.at_ g;replace a:=(kzh w (.cells #[.int .u64 0,.int .u64 0] 157) ⟨b,M+k,none⟩ T).trans a;obtain⟨x,G⟩:=xq (l[k]);have hx3:x<=3:=by rw[<-G];exact ((cQ l).1 f.out l[k] (kqp g)).2
   have D:=hid (FL B f.out g G);obtain⟨q,j⟩:=xq (fw l k);rw[G] at a;rw[j] at D |-;clear G j;go_wp2_with fail
   go_round
   case rel=>exact⟨k+1,by omega,by go_num,by rw[D.out]⟩
   case measure=>simp[intOf];omega
  obtain rfl:k=l.length:=by omega
  have t:=yN B f.out;have o:Hid (aR 14695981039346656037 [iN l]=iX (iN l)):=hid rfl;rw[fw_end];obtain⟨q,j⟩:=xq (iN l);rw[j] at t E o |-;have I:(prog.info? 157).map (·.size)=some 2:=by kernel_rfl
  clear j;go_wp2_with fail;have h:=mY (w.alloc (.cells #[.int .u64 0,.int .u64 0] 157)) [.int .u64 (q:Int)] 53;refine (oU _ [q] _ 1 _ rfl (by omega) (by simp only[kqm] at h |-;exact h) (by intro y Q;simp at Q;subst Q;omega)).mono ?_;rintro e R ⟨rfl,d⟩;rw[kqm,kqm] at d;have C:=(((kqk _ _).alloc (kqa _) (.cells #[.int .u64 0,.int .u64 0] 157)).alloc (by simp) (.cells #[.int .u64 (q:Int)] 53)).trans (d.mono (by omega));have r:=(N.out.alloc (.cells #[.int .u64 (q:Int)] 53)).up d (by omega);have P:=hid r;have J:=hid C;rw[o.out];obtain⟨z,H⟩:=xq (iX q);rw[H] at E |-;clear H r C d h;go_wp2_with ((with_reducible refine aq 157 (.tmp 2) _ ?_);refine ai rfl _ _ _ rfl w.heap.size 157 #[.int .u64 0,.int .u64 0] #[.int .u64 (q:Int),.int .u64 (z:Int)] (by rfl) (by rfl) P.out rfl I (by simp[Value.oneCell']) ?_;intro w3 u p;have L:=hid u;have O:=hid p;clear u p);exact kqr (v:=.tuple #[.agg #[.int .u64 (q:Int),.int .u64 (z:Int)],.int .i64 0]) (kj results175 _ L.out rfl rfl) rfl ⟨by rw[E.out,S.out],O.out.below J.out (kqa _)⟩
 have E:=hid (show kwV l=.agg #[.int .u64 0,.int .u64 0] by simp[kwV,a,A8]);have hne:(cI l != 0)=true:=by rw[kqu];exact a
 have N:=hid F;clear a F hr;go_enter func175,ntmps175;go_wp2_with fail;refine K.out.mono ?_;rintro e R ⟨rfl,rfl⟩;go_wp2_with fail;exact kqr (v:=.tuple #[.agg #[.int .u64 0,.int .u64 0],.int .i64 (cI l)]) (kj results175 _ N.out rfl rfl) rfl ⟨by rw[E.out],(kqk _ _).alloc (kqa _) _⟩
def bB (a b:Nat):List Nat:=if cw a b=true then fc a else []
def gI (a b:Nat):Int:=if cw a b=true then 0 else 50
def D6 (a b:Nat) (e:Ending) (w':World):Prop:=∃A c,e=.returned (.tuple #[.slice A (bB a b).length c,.int .i64 (gI a b)])/\RdY w' w'.heap.size A (bB a b)/\(bB a b).length<=c
theorem mj(h:cw a b=false):D6 a b (.returned (.tuple #[.slice none 0 0,.int .i64 50])) w':=by
 have c:bB a b=[]:=by simp[bB,h]
 have d:gI a b=50:=by simp[gI,h]
 exact⟨none,0,by rw[c,d];rfl,by rw[c];exact Rd.nil_,by rw[c];simp⟩
theorem zw(h0:cw a b=true)(h:w'.ownsRow H 5 1 v (fc a).length ((fc a).flatMap cc)):D6 a b (.returned (.tuple #[v,.int .i64 0])) w':=by
 have f:bB a b=fc a:=by simp[bB,h0]
 have i:gI a b=0:=by simp[gI,h0]
 have j:∃A c,v=.slice A (fc a).length c/\(fc a).length<=c:=by
  rcases h.2 with⟨rfl,e⟩|⟨g,cap,cur,rfl,_,_,d,_⟩
  .exact ⟨none,0,by rw[e],by omega⟩
  exact⟨_,_,rfl,d⟩
 obtain⟨A,c,rfl,d⟩:=j;exact⟨A,c,by rw[f,i],by rw[f];exact Rd.of_own h,by rw[f];exact d⟩
theorem j8(a b:Nat):cw a b=((decide (a%256<=8)&&eV (fc a))&&(iN (fc a)==a&&iX a==b)):=rfl
theorem uh(a k:Nat)(ha:a<18446744073709551616):bits BinOp.and .u64 ((a:Int)/2 ^ (8+2*k)) 3=((a/4 ^ (k+4)%4:Nat):Int):=by
 have b:(2:Nat) ^ (8+2*k)=4 ^ (k+4):=by rw[show 8+2*k=2*(k+4) by omega,Nat.pow_mul]
 have c:(a:Int)/2 ^ (8+2*k)=((a/4 ^ (k+4):Nat):Int):=by rw[<-b];simp
 have h:a/4 ^ (k+4)<18446744073709551616:=kvk (Nat.div_le_self _ _) ha;rw[c];exact se (k:=2) (m:=3) h (by decide) (by omega)
theorem ol(p q a b:Int)(W:World):(Op.equalIn 10000 157 (.agg #[.int .u64 p,.int .u64 q]) (.agg #[.int .u64 a,.int .u64 b])).run prog W=.ok (p==a&&q==b) W:=by have f:=underlying157;have c:=underlying53;have g:(Op.equalIn 10000 157 (.agg #[.int .u64 p,.int .u64 q]) (.agg #[.int .u64 a,.int .u64 b]))=(Op.equalIn (9999+1) 157 (.agg #[.int .u64 p,.int .u64 q]) (.agg #[.int .u64 a,.int .u64 b])):=rfl;have h:List.range' 0 2=[0,1]:=rfl;have e1:=λ(x y:Int)=>run_equalIn_int W 9998 53 .u64 .u64 x y c;rw[g];unfold Op.equalIn;simp[go_sem,run_underlying f,Sem.run_bind,h,List.forIn_cons];by_cases e:p=a<;>by_cases d:q=b<;>simp[e,d,go_sem]
theorem pA(a b:Nat)(w:World)(ha:a<18446744073709551616)(hb:b<18446744073709551616):
 Calls prog 117 #[.int .u64 (a:Int),.int .u64 (b:Int)] w λe w'=>D6 a b e w'/\Below w.heap.size w w':=by
 have G:=hid (j8 a b);have ha0:(0:Int)<=(a:Int):=by omega
 have e1:=(sO a ha).1;have n:=hid (fP a);have D:=hid (λk h=>ur a k h);have U:=hid (λk=>uh a k ha);have Y:a%256<256:=kz4 _ (by omega);obtain⟨m,A⟩:=xq (a%256);rw[A] at e1 n D G Y;by_cases h8:8<m
 .have X:=hid (show cw a b=false by rw[G.out,show decide (m<=8)=false by rw[kqh];omega];rfl);clear A ha hb;go_enter func117,ntmps117;go_wp2;go_ret2;exact⟨mj X.out,kqk _ _⟩
 have E:m<=8:=by omega
 rw[show decide (m<=8)=true by rw[kq0];exact E] at G;have hx0:(0:Int)<=(m:Int):=by omega
 have HA:=hid ha;have X:=hid hb;have d8:decide ((8:Int)<(m:Int))=false:=by rw[kqh];omega
 clear A ha hb h8 Y;obtain⟨i0,hi,I,K,F⟩:=kzw mh;have HI:=hid hi;have Q:=hid I;have S:=hid K;have P:=hid F;clear hi I K F;go_enter func117,ntmps117;go_wp2_with fail;go_loopw [7,16] (λv i wr=>∃k:Nat,k<=m/\i=.int .u64 k/\wr.ownsRow w.heap.size 5 1 v k (((fc a).take k).flatMap cc)/\Below w.heap.size w wr) (λ_ i _=>m-(intOf i).toNat)
 case atStart=>exact⟨0,kqy _,rfl,kza _ _ _ _,kqk _ _⟩
 obtain⟨k,hk,rfl,c,y⟩:=hrel;have L:=y.size;by_cases C:k<m
 .have R:=U.out k;have N:=D.out k C;obtain⟨x,O⟩:=xq (a/4 ^ (k+4)%4);have hx3:x<4:=by rw[<-O];exact kz4 _ (by omega)
  rw[O] at R N;have J:=hid (show ((fc a).take (k+1)).flatMap cc=((fc a).take k).flatMap cc++[.int .u8 (x:Int)] by
   have hl:k<(fc a).length:=by rw[n.out];exact C
   rw[kqn hl,cP];rw[kql hl] at N;rw[Option.some.inj N];rfl)
  have hxi:(x:Int)<4:=by omega
  have hx00:(0:Int)<=(x:Int):=by omega
  have hki:(k:Int)<(m:Int):=by omega
  clear O N;go_wp2_with (at_builtin;refine kzk _ rfl _ _ 113 rfl w.heap.size 5 i0 _ 1 1 underlying113 HI.out Q.out S.out P.out rfl (by decide) _ _ _ rfl (c.alloc _) ⟨_,0,none⟩ 1 1 [.int .u8 (x:Int)] rfl rfl (dd _ _ _) (by simp[Value.oneCell']) (by unfold maxLen;omega) (by omega) (aY y.size) ?_;intro v1 M j T _;have f:=aO y y.size c T);go_roundw
  case rel=>exact⟨k+1,by omega,by go_num,by rw[J.out];exact j,f⟩
  case measure=>simp[intOf];omega
 obtain rfl:k=m:=by omega
 rw[kq5 (by rw[n.out];exact kqa _)] at c;obtain⟨A1,c1,rfl⟩:=aS c;have z:=hid (te A1 (fc a) c1 k wr n.out (by omega) (Rd.of_own c));have g:(fc a).length<=8:=by rw[n.out];exact E
 cases l:eV (fc a)
 .have s:=hid (ll g l);have B:=hid (show cw a b=false by rw[G.out,l];rfl);have V:=hid (show kwV (fc a)=.agg #[.int .u64 0,.int .u64 0] by simp[kwV,s.out,A8]);rw[s.out,V.out] at z;clear l g c;go_wp2_with fail;refine z.out.mono ?_;rintro e M ⟨rfl,f⟩;have d:=y.trans (f.mono L);go_wp2;go_ret2;exact⟨mj B.out,d.alloc d.size _⟩
 have s:=hid (jr g l);have V:=hid (show kwV (fc a)=.agg #[.int .u64 (iN (fc a):Nat),.int .u64 (iX (iN (fc a)):Nat)] by simp[kwV,s.out,A8]);have t:=hid (show cw a b=(iN (fc a)==a&&iX (iN (fc a))==b) by
  rw[G.out,l];by_cases h:iN (fc a)=a
  .rw[h];simp
  rw[show (iN (fc a)==a)=false by rw[kqj];exact h];simp only[kxp,kjv])
 rw[s.out,V.out] at z;obtain⟨p,Z⟩:=xq (iN (fc a));obtain⟨q,W⟩:=xq (iX p);rw[Z,W] at z t;clear l g Z W;by_cases r:p=a
 .by_cases u:q=b
  .have HY:=hid (show cw a b=true by rw[t.out,r,u];simp);have o:=ol p q a b;rw[show ((p:Int)==(a:Int))=true by rw[kqw];omega,show ((q:Int)==(b:Int))=true by rw[kqw];omega,Bool.and_self] at o;clear r u;go_wp2_with fail;refine z.out.mono ?_;rintro e M ⟨rfl,f⟩;have d:=y.trans (f.mono L);have j:=ak c f (kqa _);go_wp2;go_ret2;refine⟨zw HY.out (H:=w.heap.size) ?_,d.alloc d.size _⟩;rw[n.out];exact j.alloc _
  have B:=hid (show cw a b=false by rw[t.out,show (q==b)=false by rw[kqj];exact u,kjv]);have o:=ol p q a b;rw[show ((q:Int)==(b:Int))=false by rw[kqj];omega,kjv] at o;clear r u c;go_wp2_with fail;refine z.out.mono ?_;rintro e M ⟨rfl,f⟩;have d:=y.trans (f.mono L);go_wp2;go_ret2;exact⟨mj B.out,d.alloc d.size _⟩
 have B:=hid (show cw a b=false by rw[t.out,show (p==a)=false by rw[kqj];exact r,kxp]);have o:=ol p q a b;rw[show ((p:Int)==(a:Int))=false by rw[kqj];omega,kxp] at o;clear r c;go_wp2_with fail;refine z.out.mono ?_;rintro e M ⟨rfl,f⟩;have d:=y.trans (f.mono L);go_wp2;go_ret2;exact⟨mj B.out,d.alloc d.size _⟩
def FlRes (a b:Nat) (e:Ending) (w':World):Prop:=∃A c,e=.returned (.tuple #[.slice A (bB a b).length c,.bool (cw a b)])/\RdY w' w'.heap.size A (bB a b)/\(bB a b).length<=c
theorem mt(a b:Nat):(gI a b==0)=cw a b:=by unfold gI;cases cw a b<;>simp
theorem qt(A:Option Addr)(ws:List Nat)(c n t:Nat)(w:World)(hn:ws.length=n)(hm:n<=1000000)(h2:256<=n)(ht:t<8)(hr:RdW w w.heap.size A ws)(ho:∀x∈ws,x<18446744073709551616):
 Calls prog 110 #[.slice A n c,.int .i64 (t:Int)] w λe w'=>FlRes (wd ws (96+2*t)) (wd ws (96+2*t+1)) e w'/\Below w.heap.size w w':=by
 subst hn;have r:=gu ho (96+2*t);have u:=gu ho (96+2*t+1);have l:=hid (λW=>pA (wd ws (96+2*t)) (wd ws (96+2*t+1)) W r u);have j:=hid (mt (wd ws (96+2*t)) (wd ws (96+2*t+1)));obtain⟨b,a,rfl,s,o⟩:=RdW.at_ hr (show 96+2*t<ws.length by omega);obtain⟨b',off',z,-,m⟩:=RdW.at_ hr (show 96+2*t+1<ws.length by omega);cases z;rw[<-d7] at o m;obtain⟨x,g⟩:=xq (wd ws (96+2*t));obtain⟨y,i⟩:=xq (wd ws (96+2*t+1));rw[g] at o l j |-;rw[i] at m l j |-;have t0:(0:Int)<=(t:Int):=by omega
 have t8:(t:Int)<8:=by omega
 have w1:IntKind.i64.wrap (2*(t:Int))=2*(t:Int):=kqv _ (by omega);have w2:IntKind.i64.wrap (96+2*(t:Int))=96+2*(t:Int):=kqv _ (by omega);have w3:IntKind.i64.wrap (96+2*(t:Int)+1)=96+2*(t:Int)+1:=kqv _ (by omega);have i1:(0:Int)<=96+2*(t:Int):=by omega
 have i2:(96:Int)+2*(t:Int)<(ws.length:Int):=by omega
 have i3:(0:Int)<=96+2*(t:Int)+1:=by omega
 have i4:(96:Int)+2*(t:Int)+1<(ws.length:Int):=by omega
 have n1:((96:Int)+2*(t:Int)).toNat=96+2*t:=by omega
 have n2:((96:Int)+2*(t:Int)+1).toNat=96+2*t+1:=by omega
 clear hr r u g i ho ht;go_enter func110,ntmps110;go_wp2_with fail
 go_region_held3 (λX:World=>X.cell? ⟨b,a+(96+2*t),none⟩=some (.int .u64 (x:Int))/\X.cell? ⟨b,a+(96+2*t+1),none⟩=some (.int .u64 (y:Int))) (go_keep)
  (first | (go_at_call 117;refine (l.out _).mono ?_;rintro e w5 ⟨⟨v,B,rfl,h,f⟩,d⟩;have m0:=(d.cell (p:=⟨b,a+(96+2*t),none⟩) s).trans o;have m1:=(d.cell (p:=⟨b,a+(96+2*t+1),none⟩) s).trans m;have k:=hid h;have q:=hid f;clear h f))
 go_wp2;go_ret2;exact⟨⟨v,B,by rw[j.out];rfl,k.out,q.out⟩,(kqk _ _).drew.trans d⟩
def MhRes (ws:List Nat) (e:Ending) (w':World):Prop:=∃A c,e=.returned (.tuple #[.slice A (af ws).length c,.int .i64 (ah ws)])/\RdB w' w'.heap.size A (af ws)/\(af ws).length<=c
theorem mg(hr:ah ws=r)(h0:r≠0):MhRes ws (.returned (.tuple #[.slice none 0 0,.int .i64 r])) w':=by
 subst hr;have:af ws=[]:=by simp[af,h0]
 exact⟨none,0,by rw[this];rfl,by rw[this];exact Rd.nil_,by rw[this];simp⟩
theorem gP(h:ap (ws.length:Int)=true):eY ws.length 128=false:=by have:=(ae _).1 h;simp only[eY,kzl,kqh,kqq];omega
theorem tD(h:bJ ws 128=r)(h0:r≠0):ah ws=r:=by
 subst h;cases a:ap (ws.length:Int) with
 | false=>rw[np a,fp a]
 | true =>
  cases b:blocks ws 128 with
  | none=>rw[wM a b,eN a (gP a) b]
  | some l=>exact absurd (cy a (gP a) b).1 h0
theorem yf(h:bJ ws 128=0):ap (ws.length:Int)=true/\blocks ws 128=some (aJ ws 128):=by
 cases a:ap (ws.length:Int) with
 | false=>rw[fp a] at h;cases h
 | true =>
  cases b:blocks ws 128 with
  | none=>rw[eN a (gP a) b] at h;cases h
  | some l=>rw[(cy a (gP a) b).2];exact⟨rfl,rfl⟩
theorem tZ(hk:k<l.length)(h:(l.take k).all (du ws)=true)(h1:du ws l[k]=true):(l.take (k+1)).all (du ws)=true:=by rw[kqn hk,List.all_append,h];simp[h1]
theorem xS(hk:k<l.length)(h1:du ws l[k]=false):l.all (du ws)=false:=by
 cases a:l.all (du ws) with
 | false=>rfl
 | true=>rw[kzo] at a;rw[a _ (kqp hk)] at h1;cases h1
theorem Ah(h:cw a b=true):(bB a b).length=a%256:=by simp[bB,h,fP]
theorem js{b:Bk}(hk:b.kind=1):du ws b=(cw (wd ws (tyA b)) (wd ws (tyA b+1))&&b.size==((bZ (bB (wd ws (tyA b)) (wd ws (tyA b+1))).length:Nat):Int)):=by
 unfold du cK;rw[hk];cases a:cw (wd ws (tyA b)) (wd ws (tyA b+1)) with
 | false=>rfl
 | true=>rw[Ah a];rfl
theorem eD{b:Bk}(hk:b.kind≠1):du ws b=true:=by unfold du;rw[show (b.kind != 1)=true by rw[kqu];exact hk];rfl
theorem jK{i:Nat}(h:blocks ws i=some l)(h2:i%2=0)(hk:k<l.length)(h1:l[k].kind=1):0<=l[k].typ/\l[k].typ<8:=by obtain⟨a,e,-,-,-,b,-⟩:=b9 _ _ h h2 k hk;have h7:=(bt _).1 (fE b);have e1:(bkAt ws a).kind=(ar (wd ws a)).kind:=rfl;have e2:(bkAt ws a).typ=(ar (wd ws a)).typ:=rfl;rw[e] at h1 |-;omega
theorem gJ(ws:List Nat)(h:ap (ws.length:Int)=true):256<=ws.length/\ws.length<=2048/\ws.length%8=0:=by have:=(ae _).1 h;omega
theorem Hh(A:Option Addr)(ws:List Nat)(c n:Nat)(w:World)(hn:ws.length=n)(hm:n<=9223372036854775807)(F:RdW w w.heap.size A ws)(ho:∀x∈ws,x<18446744073709551616):
 Calls prog 62 #[.slice A n c] w λe w'=>MhRes ws e w'/\Below w.heap.size w w':=by
 subst hn;have HR:=hid F;have HO:=hid ho;have Jf:=hid (lR A ws c ws.length 128 w rfl hm F ho);clear F ho;cases I:ap (ws.length:Int)
 .have HI:=hid (cn I);have HE:=hid (np I);clear I;go_enter func62,ntmps62;go_wp2_with fail;refine (aB A ws.length c w hm).mono ?_;rintro e w1 ⟨rfl,rfl⟩;rw[HI.out];go_wp2;go_ret2;exact⟨mg HE.out (by omega),kqk _ _⟩
 have HI:=hid (bG I);obtain⟨Jh,K,Jb⟩:=gJ ws I;have HS:=hid I;clear I Jb;go_enter func62,ntmps62;go_wp2_with fail;refine (aB A ws.length c w hm).mono ?_;rintro e w1 ⟨rfl,rfl⟩;rw[HI.out];go_wp2_with fail;refine Jf.out.mono ?_;rintro e w1 ⟨⟨A1,c1,rfl,D,z⟩,g⟩;have j:=g.size;have S:=iq ws 128;have a:Hid (bJ ws 128=0->ap (ws.length:Int)=true/\blocks ws 128=some (aJ ws 128)):=hid yf;have B:Hid (∀r,bJ ws 128=r->r≠0->ah ws=r):=hid (λ_ h h0=>tD h h0);obtain⟨l,hl⟩:=xq (aJ ws 128);rw[hl] at D z S a |-;have O:=hid D;have Ja:=hid z;obtain⟨r,F⟩:=xq (bJ ws 128);have Jd:=hid F;rw[F] at a |-;clear F D z hl;by_cases o:r=0
 .subst o;have J:=hid (a.out rfl).2;clear a B;go_wp2_with fail;go_loopw [26] (λi wr=>∃k:Nat,k<=l.length/\i=.int .i64 k/\Hid ((l.take k).all (du ws)=true)/\Below w1.heap.size w1 wr) (λi _=>l.length-(intOf i).toNat)
  case atStart=>exact⟨0,kqy _,rfl,rfl,kqk _ _⟩
  obtain⟨k,hk,rfl,V,G⟩:=hrel;have Z:=G.size;by_cases p:k<l.length
  .obtain ⟨b,off,rfl,hbw,q0,q1,q2,q3,q4,q5⟩:=RdB.at_ (O.out.below G) p;have q:=hid (λh=>jK J.out (by omega) p h);have E:=hid (λh=>tZ p V.out h);have L:=hid (λh=>qg HS.out J.out (xS p h));obtain⟨x,hx⟩:=xq (l[k]);rw[hx] at q0 q1 q2 q3 q4 q5 q E L;have u:=hid (λh=>js (ws:=ws) (b:=x) h);have T:=hid (λh=>eD (ws:=ws) (b:=x) h);have Y:tyA x=96+2*x.typ.toNat:=rfl;rw[Y] at u;obtain⟨xa,xs,xk,xt,xm,xn⟩:=x;dsimp only at q0 q1 q2 q3 q4 q5 q u;have hlm:(k:Int)<(l.length:Int):=by omega
   clear hx Y;have v:=Bx.new wr 55 #[.int .i64 xa,.int .i64 xs,.int .i64 xk,.int .i64 xt,.bool xm,.int .u64 (xn:Int)];by_cases f:xk=1
   .obtain ⟨t0,t8⟩:=q.out f;obtain⟨t,rfl⟩:=kqz t0;have y:=hid (u.out f);simp only[kqi] at y;subst f;have HC:=hid (λW (h:RdW W W.heap.size A ws)=>qt A ws c ws.length t W rfl (by omega) Jh (by omega) h HO.out);have hz1w:=j;have Je:=hid ((((HR.out.up g j).up G Z).alloc (kqa _) (.cells #[.int .i64 xa,.int .i64 xs,.int .i64 1,.int .i64 (t:Int),.bool xm,.int .u64 (xn:Int)] 55)).more (B':=(wr.alloc (.cells #[.int .i64 xa,.int .i64 xs,.int .i64 1,.int .i64 (t:Int),.bool xm,.int .u64 (xn:Int)] 55)).heap.size) (by simp));obtain⟨R,M⟩:=xq (wd ws (96+2*t));obtain⟨fy,X⟩:=xq (wd ws (96+2*t+1));rw[M,X] at HC y;clear v M X u T q;go_wp2_with fail;refine (HC.out _ Je.out).mono ?_;rintro e w2 ⟨⟨A2,c2,rfl,P,N⟩,s⟩;rw[kqm] at s;have U:=Bx.of_new s;have K:=G.trans ((ax s).mono Z);obtain⟨c0,c1',c2',c3,c4,c5,cf,cz⟩:=U.c6;have H:=hid K;clear P N U s K cf;obtain⟨ok,Q⟩:=xq (cw R fy);obtain⟨m,C⟩:=xq ((bB R fy).length);have hm8:m<=255:=by
     rw[<-C];unfold bB;split
     .rw[fP];have:=kz4 R (show 0<256 by omega);omega
     simp
    rw[Q,C] at y |-;clear Q C;cases ok
    .have HB:=hid (L.out (by rw[y.out];rfl));go_wp2;go_ret2;exact⟨mg HB.out (by omega),g.trans (H.out.mono j)⟩
    rw[kzx] at y;have Eq:((bZ m:Nat):Int)=((m:Int)+3)/2*2:=by unfold bZ;omega
    rw[Eq] at y;by_cases d:xs=((m:Int)+3)/2*2
    .have Jc:(xs != ((m:Int)+3)/2*2)=false:=by rw[kqq];exact d
     have HY:=hid (E.out (by rw[y.out,kqw];exact d));clear d;go_wp2;go_roundw
     case rel=>exact⟨k+1,by omega,by go_num,HY.out,H.out⟩
     case measure=>simp[intOf];omega
    have Jc:(xs != ((m:Int)+3)/2*2)=true:=by rw[kqu];exact d
    have HB:=hid (L.out (by rw[y.out,kqj];exact d));clear d;go_wp2;go_ret2;exact⟨mg HB.out (by omega),g.trans (H.out.mono j)⟩
   have hk2:(xk != 1)=true:=by rw[kqu];exact f
   have HY:=hid (E.out (T.out f));clear f v;go_wp2;go_roundw
   case rel=>exact⟨k+1,by omega,by go_num,HY.out,G.alloc Z _⟩
   case measure=>simp[intOf];omega
  have HP:=hid (fM HS.out J.out (by have:=V.out;rwa [kq5 (by omega)] at this));go_wp2;go_ret2;exact⟨⟨A1,c1,by rw[HP.out.1,HP.out.2];rfl,by rw[HP.out.2];exact O.out.up G Z,by rw[HP.out.2];exact Ja.out⟩,g.trans (G.mono j)⟩
 have hn1:(r != 0)=true:=by rw[kqu];exact o
 have HN:=hid (B.out r Jd.out o);have Jg:=hid o;clear o a B;go_wp2;go_ret2;exact⟨mg HN.out Jg.out,g⟩
theorem my(A:Option Addr)(ws:List Nat)(c n:Nat)(w:World)(hn:ws.length=n)(hm:n<=9223372036854775807)(a:RdW w w.heap.size A ws)(ho:∀x∈ws,x<18446744073709551616):
 Calls prog 162 #[.slice A n c] w λe w'=>e=.returned (.int .i64 (ah ws))/\Below w.heap.size w w':=by have f:=hid (Hh A ws c n w hn hm a ho);clear a ho hn;obtain⟨r,a⟩:=xq (ah ws);have d:=hid a;rw[a];clear a;go_enter func162,ntmps162;go_wp2_with fail;refine f.out.mono ?_;rintro e w1 ⟨⟨A1,c1,rfl,-,-⟩,b⟩;go_wp2;go_ret;exact⟨by rw[<-d.out];rfl,b⟩
theorem qX(hk:k<l.length):eG (l.take (k+1))=eG (l.take k)++(if l[k].mark=true then [l[k].at_] else []):=by rw[kqn hk];unfold eG;rw[kxx,kjy];cases h:l[k].mark<;>simp[h]
theorem CH(l:List Bk):(eG l).length<=l.length:=by unfold eG;rw[kz2];exact kj8 _ _
theorem jd(ws:List Nat):(af ws).length<=1024:=by
 unfold af;split
 .rename_i h;obtain⟨b,l,a,-⟩:=ay h;have hb:=(ae _).1 b;have:=(cd (by omega) _ _ a (by omega) (by omega) (by omega)).1;rw[a];simp only[kq8];omega
 simp
theorem kG{n:Nat}{e:TypeId}{sz:Nat}{xs:List Value}(h:w'.ownsRow H e sz v n xs):∃A c,v=.slice A n c/\n<=c/\Rd w' w'.heap.size A xs:=by
 have b:∃A c,v=.slice A n c/\n<=c:=by
  rcases h.2 with⟨rfl,hnil⟩|⟨g,cap,cur,rfl,_,_,a,_⟩
  .have h0:n=0\/0<n:=by omega
   exact⟨none,0,by
    have:=aS h;obtain⟨A,c,e⟩:=this;injection e with _ e2 _;rw[<-e2],by
    have:=aS h;obtain⟨A,c,e⟩:=this;injection e with _ e2 _;omega⟩
  exact⟨_,_,rfl,a⟩
 obtain⟨A,c,rfl,a⟩:=b;exact⟨A,c,rfl,a,Rd.of_own h⟩
theorem ud(ws:List Nat)(xa xs xk:Int)(t:Nat)(xm:Bool)(xn:Nat):cK ws ⟨xa,xs,xk,(t:Int),xm,xn⟩=(cw (wd ws (96+2*t)) (wd ws (96+2*t+1))&&xs==((bZ (bB (wd ws (96+2*t)) (wd ws (96+2*t+1))).length:Nat):Int)):=by have h:=js (ws:=ws) (b:=⟨xa,xs,1,(t:Int),xm,xn⟩) rfl;unfold du at h;exact h
theorem nf(a b:Nat):cI (bB a b)=0:=by
 unfold bB;split
 .rename_i h;unfold cw at h;simp only[kqo,kzc] at h;exact jr (by rw[fP];exact h.1.1) h.1.2
 rfl
theorem mx(a b:Nat):(bB a b).length<=8:=(jW (nf a b)).1
theorem zh(A:Option Addr)(ws:List Nat)(c n t:Nat)(xa xs xk:Int)(xm:Bool)(xn:Nat)(w:World)(hn:ws.length=n)(hm:n<=1000000)(h2:256<=n)(ht:t<8)(B:RdW w w.heap.size A ws)(ho:∀x∈ws,x<18446744073709551616):
 Calls prog 216 #[.slice A n c,.agg #[.int .i64 xa,.int .i64 xs,.int .i64 xk,.int .i64 (t:Int),.bool xm,.int .u64 (xn:Int)]] w λe w'=>e=.returned (.bool (cK ws ⟨xa,xs,xk,(t:Int),xm,xn⟩))/\Below w.heap.size w w':=by
 subst hn;have Z:=gu ho (96+2*t);have hy:=gu ho (96+2*t+1);have a:=hid (ud ws xa xs xk t xm xn);have T:=hid (λW=>pA (wd ws (96+2*t)) (wd ws (96+2*t+1)) W Z hy);have Q:=hid (mt (wd ws (96+2*t)) (wd ws (96+2*t+1)));have k:=mx (wd ws (96+2*t)) (wd ws (96+2*t+1));have j:=hid (nf (wd ws (96+2*t)) (wd ws (96+2*t+1)));obtain⟨b,d,rfl,hb,s⟩:=RdW.at_ B (show 96+2*t<ws.length by omega);obtain⟨b',off',e',-,o⟩:=RdW.at_ B (show 96+2*t+1<ws.length by omega);cases e';rw[<-d7] at s o;obtain⟨x,E⟩:=xq (wd ws (96+2*t));obtain⟨y,N⟩:=xq (wd ws (96+2*t+1));obtain⟨q,H⟩:∃q,cK ws ⟨xa,xs,xk,(t:Int),xm,xn⟩=q:=⟨_,rfl⟩;rw[E] at s T Q a j k;rw[N] at o T Q a j k;rw[H] at a |-;have t0:(0:Int)<=(t:Int):=by omega
 have t8:(t:Int)<8:=by omega
 have w1:IntKind.i64.wrap (2*(t:Int))=2*(t:Int):=kqv _ (by omega);have w2:IntKind.i64.wrap (96+2*(t:Int))=96+2*(t:Int):=kqv _ (by omega);have w3:IntKind.i64.wrap (96+2*(t:Int)+1)=96+2*(t:Int)+1:=kqv _ (by omega);have i1:(0:Int)<=96+2*(t:Int):=by omega
 have i2:(96:Int)+2*(t:Int)<(ws.length:Int):=by omega
 have i3:(0:Int)<=96+2*(t:Int)+1:=by omega
 have i4:(96:Int)+2*(t:Int)+1<(ws.length:Int):=by omega
 have n1:((96:Int)+2*(t:Int)).toNat=96+2*t:=by omega
 have n2:((96:Int)+2*(t:Int)+1).toNat=96+2*t+1:=by omega
 obtain⟨cs,U⟩:∃cs,cs=#[Value.int .i64 xa,.int .i64 xs,.int .i64 xk,.int .i64 (t:Int),.bool xm,.int .u64 (xn:Int)]:=⟨_,rfl⟩;have P:=Bx.new w 55 #[.int .i64 xa,.int .i64 xs,.int .i64 xk,.int .i64 (t:Int),.bool xm,.int .u64 (xn:Int)];have f:=(kqk w.heap.size w).alloc (kqa _) (.cells #[.int .i64 xa,.int .i64 xs,.int .i64 xk,.int .i64 (t:Int),.bool xm,.int .u64 (xn:Int)] 55);replace s:=(f.cell (p:=⟨b,d+(96+2*t),none⟩) hb).trans s;replace o:=(f.cell (p:=⟨b,d+(96+2*t+1),none⟩) hb).trans o;have M:(w.alloc (.cells #[.int .i64 xa,.int .i64 xs,.int .i64 xk,.int .i64 (t:Int),.bool xm,.int .u64 (xn:Int)] 55)).heap.size=w.heap.size+1:=by simp
 clear B Z hy E N ho ht H U;go_enter func216,ntmps216;go_wp2_with fail;obtain⟨u,J⟩:∃u,w.alloc (.cells #[.int .i64 xa,.int .i64 xs,.int .i64 xk,.int .i64 (t:Int),.bool xm,.int .u64 (xn:Int)] 55)=u:=⟨_,rfl⟩;rw[J] at s o P f M |-;clear J;have b3:u.cell? ⟨w.heap.size,3,none⟩=some (.int .i64 (t:Int)):=P.cell 3;have C:b<u.heap.size:=by omega
 have D:w.heap.size<u.heap.size:=by omega
 have BX:=hid P;have G:=hid f;clear P f M
 go_region_held3 (λX:World=>X.cell? ⟨b,d+(96+2*t),none⟩=some (.int .u64 (x:Int))/\X.cell? ⟨b,d+(96+2*t+1),none⟩=some (.int .u64 (y:Int))/\X.cell? ⟨w.heap.size,3,none⟩=some (.int .i64 (t:Int))) (go_keep)
  (first | (go_at_call 117;refine (T.out _).mono ?_;rintro e V ⟨⟨A1,c1,rfl,K,R⟩,h⟩;have m0:=(h.cell (p:=⟨b,d+(96+2*t),none⟩) C).trans s;have m1:=(h.cell (p:=⟨b,d+(96+2*t+1),none⟩) C).trans o;have m2:=(h.cell (p:=⟨w.heap.size,3,none⟩) D).trans b3;have S:=hid K;have l:=hid h;clear K R))
 have v:=sH A1 (bB x y) c1 (bB x y).length V.heap.size V rfl (by omega) S.out;have F:kSz (bB x y)=bZ (bB x y).length:=by simp[kSz,j.out]
 rw[j.out,F] at v;have g:=hid v;have O:bZ (bB x y).length<=10:=by unfold bZ;omega
 have c1x:V.cell? ⟨w.heap.size,1,none⟩=some (.int .i64 xs):=(l.out.cell (p:=⟨w.heap.size,1,none⟩) D).trans (BX.out.cell 1);obtain⟨m,I⟩:=xq ((bB x y).length);rw[I] at a g k O |-;obtain⟨z,hz⟩:=xq (bZ m);rw[hz] at g a O;have i:Hid (gI x y=if cw x y=true then 0 else 50):=hid rfl;obtain⟨r,B⟩:=xq (gI x y);obtain⟨Y,L⟩:=xq (cw x y);rw[B] at i Q |-;rw[L] at i a Q;clear B L v F I hz m0 m1 m2 s o b3;cases Y
 .obtain rfl:r=50:=i.out;go_wp2_with fail;refine g.out.mono ?_;rintro e w6 ⟨rfl,rfl⟩;go_wp2;go_ret;exact⟨by rw[a.out];rfl,G.out.trans ((kqk _ _).drew.trans (l.out.mono (by show _<=u.heap.size;omega)))⟩
 obtain rfl:r=0:=i.out;rw[kzx] at a;go_wp2_with fail;refine g.out.mono ?_;rintro e w6 ⟨rfl,rfl⟩;go_wp2;go_ret;exact⟨by rw[a.out];rfl,G.out.trans ((kqk _ _).drew.trans (l.out.mono (by show _<=u.heap.size;omega)))⟩
theorem dg:(prog.info? 89).map (λi=>(i.zero,i.size,i.bytes))=some (some (.agg #[.int .i64 0,.int .u64 0]),2,16):=by kernel_rfl
def aD (ws:List Nat):List En:=if ah ws=0 then aN (af ws) 128 else []
theorem ga(h:ah ws=0):bJ ws 128=0/\aJ ws 128=af ws/\eC (af ws) 128=0/\blocks ws 128=some (af ws):=by obtain⟨b,l,a,h3,c⟩:=ay h;obtain⟨e,d⟩:=cy b (gP b) (l:=l) a;have hb:=(ae _).1 b;refine⟨e,by rw[d,c],?_,by rw[a,c]⟩;rw[c];exact kC (i:=128) (by omega) a (by omega) (by omega) (by omega) (s:=128) (by omega) (by omega) (by omega)
theorem wj(hk:k<l.length)(s:Int):aN (l.take (k+1)) s=aN (l.take k) s++(if l[k].kind=1/\l[k].next≠bu l[k] (aI (l.take k) s) then [⟨l[k].at_+1,bu l[k] (aI (l.take k) s)⟩] else []):=by rw[kqn hk,qs];simp[aN]
theorem mI(l:List Bk):∀s,(aN l s).length<=l.length:=by
 induction l with
 | nil=>intro s;exact kqa _
 | cons b l ih =>intro s;have:=ih (eU b s);simp only[aN,kqs,kq1];split<;>simp<;>omega
theorem uB(h:eC l s=0)(hk:k<l.length):∃a:k<(ja l s).length,(ja l s)[k]=((bu l[k] (aI (l.take k) s):Nat):Int)/\bu l[k] (aI (l.take k) s)<=2048:=by
 have e:ja l s=bj l s:=by simp[ja,h]
 have d:k<(ja l s).length:=by rw[e,cR];exact hk
 refine⟨d,?_,?_⟩
 .have:=sb (l:=l) (s:=s) hk;rw[bM l k hk,<-e,kql d] at this;rw[Option.some.inj this];obtain⟨b,a,c,_⟩:=eO h;have f:=kn b (kxr hk) a c;unfold bu;split<;>omega
 obtain⟨b,a,c,_⟩:=eO h;have f:=kn b (kxr hk) a c;unfold bu;split<;>omega
theorem ux(h:eC l s=0)(hk:k<l.length):128<=l[k].at_/\l[k].at_<=2048/\2<=l[k].size/\l[k].size<=2048:=by obtain⟨a,_⟩:=eO h;have:=(eE _).1 (dI (cV a).2 hk).1;rw[bM l k hk] at this;omega
theorem so(A:Option Addr)(ws:List Nat)(c n:Nat)(w:World)(hn:ws.length=n)(hm:n<=9223372036854775807)(D:RdW w w.heap.size A ws)(ho:∀x∈ws,x<18446744073709551616):
 Calls prog 143 #[.slice A n c] w λe w'=>gp w.heap.size (ah ws) (aD ws) e w'/\Below w.heap.size w w':=by
 have HC:=hid (my A ws c n w hn hm D ho);have HF:=hid (λW (h:RdW W W.heap.size A ws)=>lR A ws c n 128 W hn hm h ho);have HR:=hid D;have J:Hid (ah ws=0->bJ ws 128=0/\aJ ws 128=af ws/\eC (af ws) 128=0/\blocks ws 128=some (af ws)):=hid ga;have S:=jd ws;clear D ho hn;by_cases y:ah ws=0
 .obtain ⟨g1,g2,g3,g4⟩:=J.out y;have Z:=hid (show aD ws=aN (af ws) 128 by simp[aD,y]);have HE:=hid y;rw[y] at HC;unfold pp at HF;rw[g1,g2] at HF;obtain⟨l,hl⟩:=xq (af ws);rw[hl] at HF S Z g3;have z:=hid g3;have I:=hid (λ(A2:Option Addr) (c2:Nat) (W:World) (h:RdB W W.heap.size A2 l)=>uu A2 l c2 l.length 128 W rfl (by omega) h (by omega));unfold AO at I;rw[g3] at I;clear y g1 g2 g3 g4 hl J;obtain⟨i0,hi,O,f,q⟩:=kzw dg;have HI:=hid hi;have Ji:=hid O;have Jb:=hid f;have Jh:=hid q;clear hi O f q;go_enter func143,ntmps143;go_wp2_with fail;refine HC.out.mono ?_;rintro e w1 ⟨rfl,p⟩;have f:=p.size;go_wp2_with fail;refine (HF.out _ (HR.out.up p f)).mono ?_;rintro e w2 ⟨⟨A1,c1,rfl,N,-⟩,H⟩;have Y:=p.trans (H.mono f);have q:=Y.size;have C:=hid N;clear N;go_wp2_with fail;refine (I.out A1 c1 _ C.out).mono ?_;rintro e w3 ⟨⟨A2,c2,rfl,R,-⟩,B⟩;have F:=Y.trans (B.mono q);have Jc:=F.size;have U:=hid R;have T:=hid (C.out.up B B.size);clear R C;obtain⟨pl,g⟩:=xq (ja l 128);have HPE:=hid g;rw[g] at U |-;have o:pl.length=l.length:=by rw[<-g];simp[ja,z.out,cR]
  have P:=hid (λk (hk:k<l.length)=>uB z.out hk);rw[g] at P;have HPL2:=hid o;rw[o];clear g o;go_wp2_with fail;go_loopw [9,30] (λv i wr=>∃k:Nat,k<=l.length/\i=.int .i64 k/\wr.ownsRow w3.heap.size 89 2 v (aN (l.take k) 128).length ((aN (l.take k) 128).flatMap En.cells)/\Below w3.heap.size w3 wr) (λ_ i _=>l.length-(intOf i).toNat)
  case atStart=>exact⟨0,kqy _,rfl,kza _ _ _ _,kqk _ _⟩
  obtain⟨k,hk,rfl,a,G⟩:=hrel;have hz:=G.size;by_cases s:k<l.length
  .obtain ⟨b,off,rfl,hbw,q0,q1,q2,q3,q4,q5⟩:=RdB.at_ (T.out.below G) s;obtain⟨Ja,Eq,Jg⟩:=P.out k s;obtain⟨b2,X,rfl,hbw2,p0⟩:=RdI.at_ (U.out.below G) Ja;rw[Eq] at p0;have d:=hid (wj s 128);have K:=mI (l.take k) 128;rw[kq3] at K;have V:=ux z.out s;obtain⟨m,M⟩:=xq (aN (l.take k) 128);rw[M] at a d K;obtain⟨v,hv⟩:=xq (bu l[k] (aI (l.take k) 128));rw[hv] at Jg p0 d;obtain⟨x,hx⟩:=xq (l[k]);rw[hx] at q0 q1 q2 q3 q4 q5 d V;obtain⟨xa,xs,xk,xt,xm,L⟩:=x;dsimp only at q0 q1 q2 q3 q4 q5 d V;have hlm:(k:Int)<(l.length:Int):=by omega
   have hml2:m.length<=1024:=by omega
   have Q:b2<wr.heap.size:=by omega
   have p0':=(kzh wr (.cells #[.int .i64 xa,.int .i64 xs,.int .i64 xk,.int .i64 xt,.bool xm,.int .u64 (L:Int)] 55) ⟨b2,X+k,none⟩ Q).trans p0;have hv2:(v:Int)<=2048:=by omega
   have hv0:(0:Int)<=(v:Int):=by omega
   clear hx M K hv Eq;by_cases u:xk=1
   .subst u;by_cases t:L=v
    .have Jd:((L:Int) != (v:Int))=false:=by rw[kqq];omega
     have j:=hid (show aN (l.take (k+1)) 128=m by rw[d.out,if_neg (λh=>h.2 t)];simp);clear d t;go_wp2;go_roundw
     case rel=>exact⟨k+1,by omega,by go_num,by rw[j.out];exact a.alloc _,G.alloc hz _⟩
     case measure=>simp[intOf];omega
    have Jd:((L:Int) != (v:Int))=true:=by rw[kqu];omega
    have j:=hid (show aN (l.take (k+1)) 128=m++[⟨xa+1,v⟩] by rw[d.out,if_pos ⟨rfl,t⟩]);clear d t;go_wp2_with (at_builtin;refine kzk _ rfl _ _ 26 rfl w3.heap.size 89 i0 _ 2 16 underlying26 HI.out Ji.out Jb.out Jh.out rfl (by decide) _ _ _ rfl ((a.alloc _).alloc _) ⟨_,0,none⟩ 1 1 [.int .i64 (xa+1),.int .u64 (v:Int)] rfl rfl (oK _ _ _ (kqm _ _)) (by simp[Value.oneCell']) (by unfold maxLen;omega) (by omega) (by simp;omega) ?_;intro v1 w2 E Jj _;have H:=aO (G.alloc hz (.cells #[.int .i64 xa,.int .i64 xs,.int .i64 1,.int .i64 xt,.bool xm,.int .u64 (L:Int)] 55)) (by simp;omega) (a.alloc _) Jj);go_roundw
    case rel=>exact⟨k+1,by omega,by go_num,by rw[j.out,kqs,cP];exact E,H⟩
    case measure=>simp[intOf];omega
   have hk2:(xk==1)=false:=by rw[kqj];exact u
   have j:=hid (show aN (l.take (k+1)) 128=m by rw[d.out,if_neg (λh=>u h.1)];simp);clear d u;go_wp2;go_roundw
   case rel=>exact⟨k+1,by omega,by go_num,by rw[j.out];exact a.alloc _,G.alloc hz _⟩
   case measure=>simp[intOf];omega
  rw[kq5 (by omega)] at a;obtain⟨A4,c4,rfl⟩:=aS a;have Je:=hid (am a F.size);clear a;go_wp2;go_ret2;exact⟨⟨A4,c4,by rw[Z.out,HE.out];rfl,by rw[Z.out];exact Je.out⟩,F.trans (G.mono Jc)⟩
 have Jf:(ah ws != 0)=true:=by rw[kqu];exact y
 have Z:=hid (show aD ws=[] by simp[aD,y]);obtain⟨r,D⟩:=xq (ah ws);have HE:=hid D;rw[D] at HC Jf;clear y D J;go_enter func143,ntmps143;go_wp2_with fail;refine HC.out.mono ?_;rintro e w1 ⟨rfl,p⟩;go_wp2;go_ret2;exact⟨bE HE.out Z.out,p⟩
end Go.Proofs.YtpcajamacpbjcaaGreat
