/- Texts laid together: Knd KndW KndR Mrk Mrk2 Fwt Fww. -/
import Derived.Test.YtpcajamacpbjcaaGreatZKPlain
import Derived.Test.YtpcajamacpbjcaaGreatZKHead
import Derived.Deep.RegionHeld3
import Derived.Deep.DrawnRows
import Derived.Test.YtpcajamacpbjcaaGreatZKPlace
set_option maxHeartbeats 16000000
set_option maxRecDepth 100000
set_option linter.all false
namespace Go.Proofs.YtpcajamacpbjcaaGreat
open Lib (hid)
open Go.RowKit
variable {r s:Int}{l:List Bk}{ws:List Nat}{H a b k:Nat}{v:Value}{w':World}
open Go.Proofs.Tryz
def bu (x:Nat):List Value:=[.int .u8 (x:Int)]
theorem qP(x:Nat):(bu x).length=1:=rfl
def RdY (w:World) (B:Nat) (A:Option Addr) (l:List Nat):Prop:=Rd w B A (l.flatMap bu)
theorem RdY.at_{w:World}{B:Nat}{A:Option Addr}{l:List Nat}(h:RdY w B A l)(hk:k<l.length):
 ∃b a,A=some ⟨b,a,none⟩/\b<B/\w.cell? ⟨b,a+k,none⟩=some (.int .u8 (l[k]:Int)):=by obtain⟨b,a,e,c,d⟩:=Rd.at_flat qP h (by omega) hk;have:=d 0 (by omega);simp only[kxm,kz8] at this;exact⟨b,a,e,c,this⟩
theorem xH{l:List Nat}(hk:k<l.length)(h:dN (l.take k)=true)(h1:1<=l[k])(h2:l[k]<=3):dN (l.take (k+1))=true:=by
 rw[kqp hk];rw[cQ] at h |-;intro x a;rw[kz0] at a;rcases a with a|a
 .exact h x a
 simp only[kqx,kzf,or_false] at a;subst a;exact⟨h1,h2⟩
theorem vy(A:Option Addr)(l:List Nat)(c n B:Nat)(w:World)(hn:l.length=n)(hm:n<=9223372036854775807)(hr:RdY w B A l):
 Calls prog 118 #[.slice A n c] w λe w'=>e=.returned (.int .i64 (da l))/\w=w':=by
 subst hn;have y:=hid hr;clear hr;by_cases p:8<l.length
 .have z:=hid (tJ p);go_enter func118,ntmps118;go_wp2;go_ret;exact⟨by rw[z.out];rfl,rfl⟩
 have d:l.length<=8:=by omega
 have q:Hid (dN l=false->da l=8):=hid λh=>lE d h;have v:Hid (dN l=true->da l=0):=hid λh=>jn d h;clear p;go_enter func118,ntmps118;go_wp2_with fail
 go_loop [10] (λi=>∃k:Nat,k<=l.length/\i=.int .i64 k/\Hid (dN (l.take k)=true)) (λi=>l.length-(intOf i).toNat)
 case atStart=>exact⟨0,kqy _,rfl,rfl⟩
 obtain⟨k,hk,rfl,o⟩:=hrel;by_cases a:k<l.length
 .obtain ⟨b,off,rfl,hb,s⟩:=y.out.at_ a;have r:=hid (λf g=>xH a o.out f g);have j:=hid (λh=>Ct a h);obtain⟨x,m⟩:=xq (l[k]);rw[m] at s r j;clear m;by_cases f:x<1
  .have E:=hid (q.out (j.out (.inl f)));go_wp2;go_ret;exact⟨by rw[E.out];rfl,rfl⟩
  by_cases g:3<x
  .have E:=hid (q.out (j.out (.inr g)));go_wp2;go_ret;exact⟨by rw[E.out];rfl,rfl⟩
  have t:1<=x:=by omega
  have u:x<=3:=by omega
  clear f g;go_wp2_with fail
  go_round
  case rel=>exact⟨k+1,by omega,by go_num,r.out t u⟩
  case measure=>simp[intOf];omega
 have E:=hid (v.out (by have:=o.out;rwa [kq5 (by omega)] at this));go_wp2;go_ret;exact⟨by rw[E.out];rfl,rfl⟩
def kSz (l:List Nat):Nat:=if da l=0 then bi l.length else 0
theorem sX(A:Option Addr)(l:List Nat)(c n B:Nat)(w:World)(hn:l.length=n)(hm:n<=9223372036854775807)(hr:RdY w B A l):
 Calls prog 158 #[.slice A n c] w λe w'=>e=.returned (.tuple #[.int .i64 (kSz l:Nat),.int .i64 (da l)])/\w=w':=by
 have b:=hid (vy A l c n B w hn hm hr);clear hr;by_cases a:da l=0
 .have g:=(kb a).1;have d:=hid (show ((kSz l:Nat):Int)=2+((n:Int)+1)/2*2 by simp only[kSz,a,if_true,bi,hn];omega);rw[hn] at g;rw[a] at b;have f:=hid a;clear a hn;go_enter func158,ntmps158;go_wp2_with fail;refine b.out.mono ?_;rintro e h ⟨rfl,rfl⟩;go_wp2;go_ret2;exact⟨by rw[d.out,f.out];rfl,rfl⟩
 have d:=hid (show kSz l=0 by simp[kSz,a]);have hne:(da l != 0)=true:=by rw[kqv];exact a
 clear a hn;go_enter func158,ntmps158;go_wp2_with fail;refine b.out.mono ?_;rintro e h ⟨rfl,rfl⟩;go_wp2;go_ret2;exact⟨by rw[d.out];rfl,rfl⟩
def BQ (a b:Nat):Value:=.agg #[.int .u64 (a:Int),.int .u64 (b:Int)]
def kwV (l:List Nat):Value:=if da l=0 then BQ (iL l) (ig (iL l)) else BQ 0 0
def fw (l:List Nat) (k:Nat):Nat:=l.length+mV (l.take k) 4
theorem kg{fn:Func}{p q:Tmp}(h:fn.results=#[.cell p 157,.tmp q])(tmps:Array Value){W:World}{g:Nat}{t:TypeId}{v0 v1 u:Value}(hb:Bx W g t #[v0,v1])(hp:tmps.getD p undef=.pointer (some ⟨g,0,none⟩))(hq:tmps.getD q undef=u):
 (results fn tmps).run prog W=.ok (.tuple #[.agg #[v0,v1],u]) W:=by obtain⟨a,b,-⟩:=hb.c2;rw[kxp] at hp hq;simp[results,h,hp,hq,go_sem,a,b]
theorem fw_lt{l:List Nat}(h:l.length<=8)(hk:dN l=true)(k:Nat):fw l k<4 ^ (4+k):=by
 have h1:=tX (l.take k) 4 (λx a=>((cQ l).1 hk x (kxv a)).2);have h2:4 ^ (4+(l.take k).length)<=4 ^ (4+k):=kja (by omega) (by rw[kq3];omega);have h4:(4:Nat) ^ 4=256:=by decide
 unfold fw;omega
theorem Jq{l:List Nat}{x:Nat}(h:l.length<=8)(hk:dN l=true)(hlt:k<l.length)(hx:l[k]=x):
 bits BinOp.or .u64 (fw l k:Nat) (IntKind.u64.wrap ((x:Int)*2 ^ (8+2*k)))=((fw l (k+1):Nat):Int):=by
 have a:x<=3:=by rw[<-hx];exact ((cQ l).1 hk l[k] (kqq hlt)).2
 have e:=fw_lt h hk k;have b:(2:Nat) ^ (8+2*k)=4 ^ (4+k):=by rw[show 8+2*k=2*(4+k) by omega,Nat.pow_mul]
 have hp:(4:Nat) ^ (4+k)<=4 ^ 11:=kja (by omega) (by omega);have h11:(4:Nat) ^ 11=4194304:=by decide
 have hb:x*2 ^ (8+2*k)<=3*4194304:=by rw[b];exact kz3 (kxu _ a) (by omega)
 have c:(x:Int)*2 ^ (8+2*k)=((x*2 ^ (8+2*k):Nat):Int):=by simp
 rw[c,kzt _ (by omega),u64_or_nat _ _ (by omega) (by omega),km (by rw[b];exact e)];have d:fw l (k+1)=fw l k+x*4 ^ (4+k):=by unfold fw;rw[kqp hlt,og,hx,kq3,kxc (by omega)];simp only[mV];omega
 rw[d,b]
theorem fw_end(l:List Nat):fw l l.length=iL l:=by unfold fw iL;rw[kzl]
theorem va(A:Option Addr)(l:List Nat)(c n:Nat)(w:World)(hn:l.length=n)(hm:n<=9223372036854775807)(hr:RdY w w.heap.size A l):
 Calls prog 175 #[.slice A n c] w λe w'=>e=.returned (.tuple #[kwV l,.int .i64 (da l)])/\Below w.heap.size w w':=by
 subst hn;have T:=hid hr;have G:=Bx.new w 157 #[.int .u64 0,.int .u64 0];have I:=hid (vy A l c l.length w.heap.size (w.alloc (.cells #[.int .u64 0,.int .u64 0] 157)) rfl hm (hr.alloc (kqa _) _));by_cases a:da l=0
 .have H:=kb a;obtain⟨B,C⟩:=H;have f:=hid C;have p:=hid (show kwV l=.agg #[.int .u64 (iL l:Nat),.int .u64 (ig (iL l):Nat)] by simp[kwV,a,BQ]);have U:=hid a;rw[a] at I;have M:=hid G;clear a C G hr;go_enter func175,ntmps175;go_wp2_with fail;refine I.out.mono ?_;rintro e Q ⟨rfl,rfl⟩;go_wp2_with fail
  go_loop [5,21] (λs i=>∃k:Nat,k<=l.length/\i=.int .i64 k/\s=.int .u64 (fw l k:Nat)) (λ_ i=>l.length-(intOf i).toNat)
  case atStart=>exact⟨0,kqy _,rfl,by simp[fw,mV]⟩
  obtain⟨k,hk,rfl,rfl⟩:=hrel;by_cases h:k<l.length
  .obtain ⟨b,N,rfl,S,a⟩:=T.out.at_ h;replace a:=(kzk w (.cells #[.int .u64 0,.int .u64 0] 157) ⟨b,N+k,none⟩ S).trans a;obtain⟨x,F⟩:=xq (l[k]);have hx3:x<=3:=by rw[<-F];exact ((cQ l).1 f.out l[k] (kqq h)).2
   have r:=hid (Jq B f.out h F);obtain⟨q,o⟩:=xq (fw l k);rw[F] at a;rw[o] at r |-;clear F o;go_wp2_with fail
   go_round
   case rel=>exact⟨k+1,by omega,by go_num,by rw[r.out]⟩
   case measure=>simp[intOf];omega
  obtain rfl:k=l.length:=by omega
  have t:=BS B f.out;have E:Hid (aY 14695981039346656037 [iL l]=ig (iL l)):=hid rfl;rw[fw_end];obtain⟨q,o⟩:=xq (iL l);rw[o] at t p E |-;have O:(prog.info? 157).map (·.size)=some 2:=by kernel_rfl
  clear o;go_wp2_with fail;have g:=nw (w.alloc (.cells #[.int .u64 0,.int .u64 0] 157)) [.int .u64 (q:Int)] 53;refine (qZ _ [q] _ 1 _ rfl (by omega) (by simp only[kqm] at g |-;exact g) (by intro y R;simp at R;subst R;omega)).mono ?_;rintro e Q ⟨rfl,d⟩;rw[kqm,kqm] at d;have m:=(((kqk _ _).alloc (kqa _) (.cells #[.int .u64 0,.int .u64 0] 157)).alloc (by simp) (.cells #[.int .u64 (q:Int)] 53)).trans (d.mono (by omega));have D:=(M.out.alloc (.cells #[.int .u64 (q:Int)] 53)).up d (by omega);have K:=hid D;have J:=hid m;rw[E.out];obtain⟨z,H⟩:=xq (ig q);rw[H] at p |-;clear H D m d g;go_wp2_with ((with_reducible refine ar 157 (.tmp 2) _ ?_);refine am rfl _ _ _ rfl w.heap.size 157 #[.int .u64 0,.int .u64 0] #[.int .u64 (q:Int),.int .u64 (z:Int)] (by rfl) (by rfl) K.out rfl O (by simp[Value.oneCell']) ?_;intro w3 u j;have P:=hid u;have L:=hid j;clear u j);exact kqo (v:=.tuple #[.agg #[.int .u64 (q:Int),.int .u64 (z:Int)],.int .i64 0]) (kg results175 _ P.out rfl rfl) rfl ⟨by rw[p.out,U.out],L.out.below J.out (kqa _)⟩
 have p:=hid (show kwV l=.agg #[.int .u64 0,.int .u64 0] by simp[kwV,a,BQ]);have hne:(da l != 0)=true:=by rw[kqv];exact a
 have M:=hid G;clear a G hr;go_enter func175,ntmps175;go_wp2_with fail;refine I.out.mono ?_;rintro e Q ⟨rfl,rfl⟩;go_wp2_with fail;exact kqo (v:=.tuple #[.agg #[.int .u64 0,.int .u64 0],.int .i64 (da l)]) (kg results175 _ M.out rfl rfl) rfl ⟨by rw[p.out],(kqk _ _).alloc (kqa _) _⟩
def bp (a b:Nat):List Nat:=if cr a b=true then dB a else []
def eN (a b:Nat):Int:=if cr a b=true then 0 else 50
def Eu (a b:Nat) (e:Ending) (w':World):Prop:=∃A c,e=.returned (.tuple #[.slice A (bp a b).length c,.int .i64 (eN a b)])/\RdY w' w'.heap.size A (bp a b)/\(bp a b).length<=c
theorem mH(h:cr a b=false):Eu a b (.returned (.tuple #[.slice none 0 0,.int .i64 50])) w':=by
 have c:bp a b=[]:=by simp[bp,h]
 have d:eN a b=50:=by simp[eN,h]
 exact⟨none,0,by rw[c,d];rfl,by rw[c];exact Rd.nil_,by rw[c];simp⟩
theorem CH(h0:cr a b=true)(h:w'.ownsRow H 5 1 v (dB a).length ((dB a).flatMap bu)):Eu a b (.returned (.tuple #[v,.int .i64 0])) w':=by
 have f:bp a b=dB a:=by simp[bp,h0]
 have j:eN a b=0:=by simp[eN,h0]
 have i:∃A c,v=.slice A (dB a).length c/\(dB a).length<=c:=by
  rcases h.2 with⟨rfl,e⟩|⟨g,cap,cur,rfl,_,_,d,_⟩
  .exact ⟨none,0,by rw[e],by omega⟩
  exact⟨_,_,rfl,d⟩
 obtain⟨A,c,rfl,d⟩:=i;exact⟨A,c,by rw[f,j],by rw[f];exact Rd.of_own h,by rw[f];exact d⟩
theorem ko(a b:Nat):cr a b=((decide (a%256<=8)&&dN (dB a))&&(iL (dB a)==a&&ig a==b)):=rfl
theorem vQ(a k:Nat)(ha:a<18446744073709551616):bits BinOp.and .u64 ((a:Int)/2 ^ (8+2*k)) 3=((a/4 ^ (k+4)%4:Nat):Int):=by
 have b:(2:Nat) ^ (8+2*k)=4 ^ (k+4):=by rw[show 8+2*k=2*(k+4) by omega,Nat.pow_mul]
 have c:(a:Int)/2 ^ (8+2*k)=((a/4 ^ (k+4):Nat):Int):=by rw[<-b];simp
 have h:a/4 ^ (k+4)<18446744073709551616:=kkf (kk3 _ _) ha;rw[c];exact uk (k:=2) (m:=3) h (by decide) (by omega)
theorem pk(p q a b:Int)(W:World):(Op.equalIn 10000 157 (.agg #[.int .u64 p,.int .u64 q]) (.agg #[.int .u64 a,.int .u64 b])).run prog W=.ok (p==a&&q==b) W:=by have g:=underlying157;have d:=underlying53;have c:(Op.equalIn 10000 157 (.agg #[.int .u64 p,.int .u64 q]) (.agg #[.int .u64 a,.int .u64 b]))=(Op.equalIn (9999+1) 157 (.agg #[.int .u64 p,.int .u64 q]) (.agg #[.int .u64 a,.int .u64 b])):=rfl;have h:List.range' 0 2=[0,1]:=rfl;have e1:=λ(x y:Int)=>run_equalIn_int W 9998 53 .u64 .u64 x y d;rw[c];unfold Op.equalIn;simp[go_sem,run_underlying g,Sem.run_bind,h,List.forIn_cons];by_cases f:p=a<;>by_cases e:q=b<;>simp[f,e,go_sem]
theorem re(a b:Nat)(w:World)(ha:a<18446744073709551616)(hb:b<18446744073709551616):
 Calls prog 117 #[.int .u64 (a:Int),.int .u64 (b:Int)] w λe w'=>Eu a b e w'/\Below w.heap.size w w':=by
 have G:=hid (ko a b);have ha0:(0:Int)<=(a:Int):=by omega
 have e1:=(uo a ha).1;have l:=hid (eZ a);have B:=hid (λk h=>qw a k h);have U:=hid (λk=>vQ a k ha);have Y:a%256<256:=kzz _ (by omega);obtain⟨m,A⟩:=xq (a%256);rw[A] at e1 l B G Y;by_cases h8:8<m
 .have HB:=hid (show cr a b=false by rw[G.out,show decide (m<=8)=false by rw[kqc];omega];rfl);clear A ha hb;go_enter func117,ntmps117;go_wp2;go_ret2;exact⟨mH HB.out,kqk _ _⟩
 have K:m<=8:=by omega
 rw[show decide (m<=8)=true by rw[kqn];exact K] at G;have hx0:(0:Int)<=(m:Int):=by omega
 have HA:=hid ha;have HB:=hid hb;have d8:decide ((8:Int)<(m:Int))=false:=by rw[kqc];omega
 clear A ha hb h8 Y;obtain⟨i0,Z,D,I,J⟩:=kzw kO;have HI:=hid Z;have T:=hid D;have R:=hid I;have P:=hid J;clear Z D I J;go_enter func117,ntmps117;go_wp2_with fail;go_loopw [7,16] (λv i wr=>∃k:Nat,k<=m/\i=.int .u64 k/\wr.ownsRow w.heap.size 5 1 v k (((dB a).take k).flatMap bu)/\Below w.heap.size w wr) (λ_ i _=>m-(intOf i).toNat)
 case atStart=>exact⟨0,kqy _,rfl,kza _ _ _ _,kqk _ _⟩
 obtain⟨k,hk,rfl,c,y⟩:=hrel;have L:=y.size;by_cases F:k<m
 .have V:=U.out k;have M:=B.out k F;obtain⟨x,O⟩:=xq (a/4 ^ (k+4)%4);have hx3:x<4:=by rw[<-O];exact kzz _ (by omega)
  rw[O] at V M;have E:=hid (show ((dB a).take (k+1)).flatMap bu=((dB a).take k).flatMap bu++[.int .u8 (x:Int)] by
   have X:k<(dB a).length:=by rw[l.out];exact F
   rw[kqp X,cq];rw[kql X] at M;rw[Option.some.inj M];rfl)
  have hxi:(x:Int)<4:=by omega
  have hx00:(0:Int)<=(x:Int):=by omega
  have hki:(k:Int)<(m:Int):=by omega
  clear O M;go_wp2_with (at_builtin;refine kze _ rfl _ _ 113 rfl w.heap.size 5 i0 _ 1 1 underlying113 HI.out T.out R.out P.out rfl (by decide) _ _ _ rfl (c.alloc _) ⟨_,0,none⟩ 1 1 [.int .u8 (x:Int)] rfl rfl (cI _ _ _) (by simp[Value.oneCell']) (by unfold maxLen;omega) (by omega) (aS y.size) ?_;intro v1 N j S _;have f:=aE y y.size c S);go_roundw
  case rel=>exact⟨k+1,by omega,by go_num,by rw[E.out];exact j,f⟩
  case measure=>simp[intOf];omega
 obtain rfl:k=m:=by omega
 rw[kq5 (by rw[l.out];exact kqa _)] at c;obtain⟨A1,c1,rfl⟩:=aO c;have z:=hid (va A1 (dB a) c1 k wr l.out (by omega) (Rd.of_own c));have g:(dB a).length<=8:=by rw[l.out];exact K
 cases n:dN (dB a)
 .have o:=hid (lE g n);have C:=hid (show cr a b=false by rw[G.out,n];rfl);have Q:=hid (show kwV (dB a)=.agg #[.int .u64 0,.int .u64 0] by simp[kwV,o.out,BQ]);rw[o.out,Q.out] at z;clear n g c;go_wp2_with fail;refine z.out.mono ?_;rintro e N ⟨rfl,f⟩;have d:=y.trans (f.mono L);go_wp2;go_ret2;exact⟨mH C.out,d.alloc d.size _⟩
 have o:=hid (jn g n);have Q:=hid (show kwV (dB a)=.agg #[.int .u64 (iL (dB a):Nat),.int .u64 (ig (iL (dB a)):Nat)] by simp[kwV,o.out,BQ]);have t:=hid (show cr a b=(iL (dB a)==a&&ig (iL (dB a))==b) by
  rw[G.out,n];by_cases h:iL (dB a)=a
  .rw[h];simp
  rw[show (iL (dB a)==a)=false by rw[kqi];exact h];simp only[kxz,kjv])
 rw[o.out,Q.out] at z;obtain⟨p,hp⟩:=xq (iL (dB a));obtain⟨q,W⟩:=xq (ig p);rw[hp,W] at z t;clear n g hp W;by_cases s:p=a
 .by_cases u:q=b
  .have HY:=hid (show cr a b=true by rw[t.out,s,u];simp);have r:=pk p q a b;rw[show ((p:Int)==(a:Int))=true by rw[kqw];omega,show ((q:Int)==(b:Int))=true by rw[kqw];omega,Bool.and_self] at r;clear s u;go_wp2_with fail;refine z.out.mono ?_;rintro e N ⟨rfl,f⟩;have d:=y.trans (f.mono L);have j:=ai c f (kqa _);go_wp2;go_ret2;refine⟨CH HY.out (H:=w.heap.size) ?_,d.alloc d.size _⟩;rw[l.out];exact j.alloc _
  have C:=hid (show cr a b=false by rw[t.out,show (q==b)=false by rw[kqi];exact u,kjv]);have r:=pk p q a b;rw[show ((q:Int)==(b:Int))=false by rw[kqi];omega,kjv] at r;clear s u c;go_wp2_with fail;refine z.out.mono ?_;rintro e N ⟨rfl,f⟩;have d:=y.trans (f.mono L);go_wp2;go_ret2;exact⟨mH C.out,d.alloc d.size _⟩
 have C:=hid (show cr a b=false by rw[t.out,show (p==a)=false by rw[kqi];exact s,kxz]);have r:=pk p q a b;rw[show ((p:Int)==(a:Int))=false by rw[kqi];omega,kxz] at r;clear s c;go_wp2_with fail;refine z.out.mono ?_;rintro e N ⟨rfl,f⟩;have d:=y.trans (f.mono L);go_wp2;go_ret2;exact⟨mH C.out,d.alloc d.size _⟩
def FlRes (a b:Nat) (e:Ending) (w':World):Prop:=∃A c,e=.returned (.tuple #[.slice A (bp a b).length c,.bool (cr a b)])/\RdY w' w'.heap.size A (bp a b)/\(bp a b).length<=c
theorem mT(a b:Nat):(eN a b==0)=cr a b:=by unfold eN;cases cr a b<;>simp
theorem sd(A:Option Addr)(ws:List Nat)(c n t:Nat)(w:World)(hn:ws.length=n)(hm:n<=1000000)(h2:256<=n)(ht:t<8)(hr:RdW w w.heap.size A ws)(ho:∀x∈ws,x<18446744073709551616):
 Calls prog 110 #[.slice A n c,.int .i64 (t:Int)] w λe w'=>FlRes (wd ws (96+2*t)) (wd ws (96+2*t+1)) e w'/\Below w.heap.size w w':=by
 subst hn;have r:=fM ho (96+2*t);have u:=fM ho (96+2*t+1);have j:=hid (λW=>re (wd ws (96+2*t)) (wd ws (96+2*t+1)) W r u);have q:=hid (mT (wd ws (96+2*t)) (wd ws (96+2*t+1)));obtain⟨b,a,rfl,s,l⟩:=RdW.at_ hr (show 96+2*t<ws.length by omega);obtain⟨b',off',v,-,k⟩:=RdW.at_ hr (show 96+2*t+1<ws.length by omega);cases v;rw[<-cA] at l k;obtain⟨x,f⟩:=xq (wd ws (96+2*t));obtain⟨y,i⟩:=xq (wd ws (96+2*t+1));rw[f] at l j q |-;rw[i] at k j q |-;have t0:(0:Int)<=(t:Int):=by omega
 have t8:(t:Int)<8:=by omega
 have w1:IntKind.i64.wrap (2*(t:Int))=2*(t:Int):=kqs _ (by omega);have w2:IntKind.i64.wrap (96+2*(t:Int))=96+2*(t:Int):=kqs _ (by omega);have w3:IntKind.i64.wrap (96+2*(t:Int)+1)=96+2*(t:Int)+1:=kqs _ (by omega);have i1:(0:Int)<=96+2*(t:Int):=by omega
 have i2:(96:Int)+2*(t:Int)<(ws.length:Int):=by omega
 have i3:(0:Int)<=96+2*(t:Int)+1:=by omega
 have i4:(96:Int)+2*(t:Int)+1<(ws.length:Int):=by omega
 have n1:((96:Int)+2*(t:Int)).toNat=96+2*t:=by omega
 have n2:((96:Int)+2*(t:Int)+1).toNat=96+2*t+1:=by omega
 clear hr r u f i ho ht;go_enter func110,ntmps110;go_wp2_with fail
 go_region_held3 (λX:World=>X.cell? ⟨b,a+(96+2*t),none⟩=some (.int .u64 (x:Int))/\X.cell? ⟨b,a+(96+2*t+1),none⟩=some (.int .u64 (y:Int))) (go_keep)
  (first | (go_at_call 117;refine (j.out _).mono ?_;rintro e w5 ⟨⟨z,B,rfl,h,g⟩,d⟩;have m0:=(d.cell (p:=⟨b,a+(96+2*t),none⟩) s).trans l;have m1:=(d.cell (p:=⟨b,a+(96+2*t+1),none⟩) s).trans k;have o:=hid h;have m:=hid g;clear h g))
 go_wp2;go_ret2;exact⟨⟨z,B,by rw[q.out];rfl,o.out,m.out⟩,(kqk _ _).drew.trans d⟩
def MhRes (ws:List Nat) (e:Ending) (w':World):Prop:=∃A c,e=.returned (.tuple #[.slice A (af ws).length c,.int .i64 (ah ws)])/\RdB w' w'.heap.size A (af ws)/\(af ws).length<=c
theorem mS(hr:ah ws=r)(h0:r≠0):MhRes ws (.returned (.tuple #[.slice none 0 0,.int .i64 r])) w':=by
 subst hr;have:af ws=[]:=by simp[af,h0]
 exact⟨none,0,by rw[this];rfl,by rw[this];exact Rd.nil_,by rw[this];simp⟩
theorem ii(h:aj (ws.length:Int)=true):fe ws.length 128=false:=by have:=(aa _).1 h;simp only[fe,kzn,kqc,kqr];omega
theorem vD(h:cc ws 128=r)(h0:r≠0):ah ws=r:=by
 subst h;cases a:aj (ws.length:Int) with
 | false=>rw[nl a,fH a]
 | true =>
  cases b:blocks ws 128 with
  | none=>rw[wJ a b,eP a (ii a) b]
  | some l=>exact absurd (cO a (ii a) b).1 h0
theorem Cy(h:cc ws 128=0):aj (ws.length:Int)=true/\blocks ws 128=some (aQ ws 128):=by
 cases a:aj (ws.length:Int) with
 | false=>rw[fH a] at h;cases h
 | true =>
  cases b:blocks ws 128 with
  | none=>rw[eP a (ii a) b] at h;cases h
  | some l=>rw[(cO a (ii a) b).2];exact⟨rfl,rfl⟩
theorem uv(hk:k<l.length)(h:(l.take k).all (dK ws)=true)(h1:dK ws l[k]=true):(l.take (k+1)).all (dK ws)=true:=by rw[kqp hk,List.all_append,h];simp[h1]
theorem Dc(hk:k<l.length)(h1:dK ws l[k]=false):l.all (dK ws)=false:=by
 cases a:l.all (dK ws) with
 | false=>rfl
 | true=>rw[kzu] at a;rw[a _ (kqq hk)] at h1;cases h1
theorem sO(h:cr a b=true):(bp a b).length=a%256:=by simp[bp,h,eZ]
theorem jC{b:Bk}(hk:b.kind=1):dK ws b=(cr (wd ws (tyA b)) (wd ws (tyA b+1))&&b.size==((bi (bp (wd ws (tyA b)) (wd ws (tyA b+1))).length:Nat):Int)):=by
 unfold dK cZ;rw[hk];cases a:cr (wd ws (tyA b)) (wd ws (tyA b+1)) with
 | false=>rfl
 | true=>rw[sO a];rfl
theorem eC{b:Bk}(hk:b.kind≠1):dK ws b=true:=by unfold dK;rw[show (b.kind != 1)=true by rw[kqv];exact hk];rfl
theorem jM{i:Nat}(h:blocks ws i=some l)(h2:i%2=0)(hk:k<l.length)(h1:l[k].kind=1):0<=l[k].typ/\l[k].typ<8:=by obtain⟨a,e,-,-,-,b,-⟩:=cp _ _ h h2 k hk;have h7:=(bD _).1 (fP b);have e1:(bkAt ws a).kind=(aq (wd ws a)).kind:=rfl;have e2:(bkAt ws a).typ=(aq (wd ws a)).typ:=rfl;rw[e] at h1 |-;omega
theorem gX(ws:List Nat)(h:aj (ws.length:Int)=true):256<=ws.length/\ws.length<=2048/\ws.length%8=0:=by have:=(aa _).1 h;omega
theorem IS(A:Option Addr)(ws:List Nat)(c n:Nat)(w:World)(hn:ws.length=n)(hm:n<=9223372036854775807)(K:RdW w w.heap.size A ws)(ho:∀x∈ws,x<18446744073709551616):
 Calls prog 62 #[.slice A n c] w λe w'=>MhRes ws e w'/\Below w.heap.size w w':=by
 subst hn;have HR:=hid K;have HO:=hid ho;have Eq:=hid (mf A ws c ws.length 128 w rfl hm K ho);clear K ho;cases L:aj (ws.length:Int)
 .have HI:=hid (bI L);have HE:=hid (nl L);clear L;go_enter func62,ntmps62;go_wp2_with fail;refine (aG A ws.length c w hm).mono ?_;rintro e w1 ⟨rfl,rfl⟩;rw[HI.out];go_wp2;go_ret2;exact⟨mS HE.out (by omega),kqk _ _⟩
 have HI:=hid (aZ L);obtain⟨Kd,B,Kh⟩:=gX ws L;have HS:=hid L;clear L Kh;go_enter func62,ntmps62;go_wp2_with fail;refine (aG A ws.length c w hm).mono ?_;rintro e w1 ⟨rfl,rfl⟩;rw[HI.out];go_wp2_with fail;refine Eq.out.mono ?_;rintro e w1 ⟨⟨A1,c1,rfl,D,z⟩,g⟩;have o:=g.size;have R:=ix ws 128;have a:Hid (cc ws 128=0->aj (ws.length:Int)=true/\blocks ws 128=some (aQ ws 128)):=hid Cy;have J:Hid (∀r,cc ws 128=r->r≠0->ah ws=r):=hid (λ_ h h0=>vD h h0);obtain⟨l,hl⟩:=xq (aQ ws 128);rw[hl] at D z R a |-;have V:=hid D;have Kf:=hid z;obtain⟨r,K⟩:=xq (cc ws 128);have Ke:=hid K;rw[K] at a |-;clear K D z hl;by_cases j:r=0
 .subst j;have F:=hid (a.out rfl).2;clear a J;go_wp2_with fail;go_loopw [26] (λi wr=>∃k:Nat,k<=l.length/\i=.int .i64 k/\Hid ((l.take k).all (dK ws)=true)/\Below w1.heap.size w1 wr) (λi _=>l.length-(intOf i).toNat)
  case atStart=>exact⟨0,kqy _,rfl,rfl,kqk _ _⟩
  obtain⟨k,hk,rfl,O,G⟩:=hrel;have hz:=G.size;by_cases p:k<l.length
  .obtain ⟨b,off,rfl,hbw,q0,q1,q2,q3,q4,q5⟩:=RdB.at_ (V.out.below G) p;have q:=hid (λh=>jM F.out (by omega) p h);have E:=hid (λh=>uv p O.out h);have C:=hid (λh=>ry HS.out F.out (Dc p h));obtain⟨x,hx⟩:=xq (l[k]);rw[hx] at q0 q1 q2 q3 q4 q5 q E C;have u:=hid (λh=>jC (ws:=ws) (b:=x) h);have M:=hid (λh=>eC (ws:=ws) (b:=x) h);have S:tyA x=96+2*x.typ.toNat:=rfl;rw[S] at u;obtain⟨xa,xs,xk,xt,xm,xn⟩:=x;dsimp only at q0 q1 q2 q3 q4 q5 q u;have hlm:(k:Int)<(l.length:Int):=by omega
   clear hx S;have v:=Bx.new wr 55 #[.int .i64 xa,.int .i64 xs,.int .i64 xk,.int .i64 xt,.bool xm,.int .u64 (xn:Int)];by_cases f:xk=1
   .obtain ⟨t0,t8⟩:=q.out f;obtain⟨t,rfl⟩:=kq2 t0;have y:=hid (u.out f);simp only[kqj] at y;subst f;have HC:=hid (λW (h:RdW W W.heap.size A ws)=>sd A ws c ws.length t W rfl (by omega) Kd (by omega) h HO.out);have hz1w:=o;have Ka:=hid ((((HR.out.up g o).up G hz).alloc (kqa _) (.cells #[.int .i64 xa,.int .i64 xs,.int .i64 1,.int .i64 (t:Int),.bool xm,.int .u64 (xn:Int)] 55)).more (B':=(wr.alloc (.cells #[.int .i64 xa,.int .i64 xs,.int .i64 1,.int .i64 (t:Int),.bool xm,.int .u64 (xn:Int)] 55)).heap.size) (by simp));obtain⟨N,Y⟩:=xq (wd ws (96+2*t));obtain⟨Z,P⟩:=xq (wd ws (96+2*t+1));rw[Y,P] at HC y;clear v Y P u M q;go_wp2_with fail;refine (HC.out _ Ka.out).mono ?_;rintro e w2 ⟨⟨A2,c2,rfl,Q,T⟩,s⟩;rw[kqm] at s;have X:=Bx.of_new s;have B:=G.trans ((aw s).mono hz);obtain⟨c0,c1',c2',c3,c4,c5,cf,cz⟩:=X.c6;have I:=hid B;clear Q T X s B cf;obtain⟨ok,U⟩:=xq (cr N Z);obtain⟨m,H⟩:=xq ((bp N Z).length);have hm8:m<=255:=by
     rw[<-H];unfold bp;split
     .rw[eZ];have:=kzz N (show 0<256 by omega);omega
     simp
    rw[U,H] at y |-;clear U H;cases ok
    .have HB:=hid (C.out (by rw[y.out];rfl));go_wp2;go_ret2;exact⟨mS HB.out (by omega),g.trans (I.out.mono o)⟩
    rw[kzq] at y;have Kc:((bi m:Nat):Int)=((m:Int)+3)/2*2:=by unfold bi;omega
    rw[Kc] at y;by_cases d:xs=((m:Int)+3)/2*2
    .have Kb:(xs != ((m:Int)+3)/2*2)=false:=by rw[kqr];exact d
     have HY:=hid (E.out (by rw[y.out,kqw];exact d));clear d;go_wp2;go_roundw
     case rel=>exact⟨k+1,by omega,by go_num,HY.out,I.out⟩
     case measure=>simp[intOf];omega
    have Kb:(xs != ((m:Int)+3)/2*2)=true:=by rw[kqv];exact d
    have HB:=hid (C.out (by rw[y.out,kqi];exact d));clear d;go_wp2;go_ret2;exact⟨mS HB.out (by omega),g.trans (I.out.mono o)⟩
   have hk2:(xk != 1)=true:=by rw[kqv];exact f
   have HY:=hid (E.out (M.out f));clear f v;go_wp2;go_roundw
   case rel=>exact⟨k+1,by omega,by go_num,HY.out,G.alloc hz _⟩
   case measure=>simp[intOf];omega
  have HP:=hid (fT HS.out F.out (by have:=O.out;rwa [kq5 (by omega)] at this));go_wp2;go_ret2;exact⟨⟨A1,c1,by rw[HP.out.1,HP.out.2];rfl,by rw[HP.out.2];exact V.out.up G hz,by rw[HP.out.2];exact Kf.out⟩,g.trans (G.mono o)⟩
 have hn1:(r != 0)=true:=by rw[kqv];exact j
 have HN:=hid (J.out r Ke.out j);have Kg:=hid j;clear j a J;go_wp2;go_ret2;exact⟨mS HN.out Kg.out,g⟩
theorem mO(A:Option Addr)(ws:List Nat)(c n:Nat)(w:World)(hn:ws.length=n)(hm:n<=9223372036854775807)(a:RdW w w.heap.size A ws)(ho:∀x∈ws,x<18446744073709551616):
 Calls prog 162 #[.slice A n c] w λe w'=>e=.returned (.int .i64 (ah ws))/\Below w.heap.size w w':=by have d:=hid (IS A ws c n w hn hm a ho);clear a ho hn;obtain⟨r,a⟩:=xq (ah ws);have f:=hid a;rw[a];clear a;go_enter func162,ntmps162;go_wp2_with fail;refine d.out.mono ?_;rintro e w1 ⟨⟨A1,c1,rfl,-,-⟩,b⟩;go_wp2;go_ret;exact⟨by rw[<-f.out];rfl,b⟩
theorem sH(hk:k<l.length):eG (l.take (k+1))=eG (l.take k)++(if l[k].mark=true then [l[k].at_] else []):=by rw[kqp hk];unfold eG;rw[kx8,kjo];cases h:l[k].mark<;>simp[h]
theorem FK(l:List Bk):(eG l).length<=l.length:=by unfold eG;rw[kzo];exact kjp _ _
theorem jG(ws:List Nat):(af ws).length<=1024:=by
 unfold af;split
 .rename_i h;obtain⟨b,l,a,-⟩:=aA h;have hb:=(aa _).1 b;have:=(bK (by omega) _ _ a (by omega) (by omega) (by omega)).1;rw[a];simp only[kq8];omega
 simp
theorem kJ{n:Nat}{e:TypeId}{sz:Nat}{xs:List Value}(h:w'.ownsRow H e sz v n xs):∃A c,v=.slice A n c/\n<=c/\Rd w' w'.heap.size A xs:=by
 have b:∃A c,v=.slice A n c/\n<=c:=by
  rcases h.2 with⟨rfl,hnil⟩|⟨g,cap,cur,rfl,_,_,a,_⟩
  .have h0:n=0\/0<n:=by omega
   exact⟨none,0,by
    have:=aO h;obtain⟨A,c,e⟩:=this;injection e with _ e2 _;rw[<-e2],by
    have:=aO h;obtain⟨A,c,e⟩:=this;injection e with _ e2 _;omega⟩
  exact⟨_,_,rfl,a⟩
 obtain⟨A,c,rfl,a⟩:=b;exact⟨A,c,rfl,a,Rd.of_own h⟩
theorem uF(ws:List Nat)(xa xs xk:Int)(t:Nat)(xm:Bool)(xn:Nat):cZ ws ⟨xa,xs,xk,(t:Int),xm,xn⟩=(cr (wd ws (96+2*t)) (wd ws (96+2*t+1))&&xs==((bi (bp (wd ws (96+2*t)) (wd ws (96+2*t+1))).length:Nat):Int)):=by have h:=jC (ws:=ws) (b:=⟨xa,xs,1,(t:Int),xm,xn⟩) rfl;unfold dK at h;exact h
theorem nc(a b:Nat):da (bp a b)=0:=by
 unfold bp;split
 .rename_i h;unfold cr at h;simp only[kqt,kzc] at h;exact jn (by rw[eZ];exact h.1.1) h.1.2
 rfl
theorem kB(a b:Nat):(bp a b).length<=8:=(kb (nc a b)).1
theorem BR(A:Option Addr)(ws:List Nat)(c n t:Nat)(xa xs xk:Int)(xm:Bool)(xn:Nat)(w:World)(hn:ws.length=n)(hm:n<=1000000)(h2:256<=n)(ht:t<8)(B:RdW w w.heap.size A ws)(ho:∀x∈ws,x<18446744073709551616):
 Calls prog 216 #[.slice A n c,.agg #[.int .i64 xa,.int .i64 xs,.int .i64 xk,.int .i64 (t:Int),.bool xm,.int .u64 (xn:Int)]] w λe w'=>e=.returned (.bool (cZ ws ⟨xa,xs,xk,(t:Int),xm,xn⟩))/\Below w.heap.size w w':=by
 subst hn;have Z:=fM ho (96+2*t);have hy:=fM ho (96+2*t+1);have a:=hid (uF ws xa xs xk t xm xn);have R:=hid (λW=>re (wd ws (96+2*t)) (wd ws (96+2*t+1)) W Z hy);have Q:=hid (mT (wd ws (96+2*t)) (wd ws (96+2*t+1)));have v:=kB (wd ws (96+2*t)) (wd ws (96+2*t+1));have h:=hid (nc (wd ws (96+2*t)) (wd ws (96+2*t+1)));obtain⟨b,d,rfl,hb,s⟩:=RdW.at_ B (show 96+2*t<ws.length by omega);obtain⟨b',off',e',-,l⟩:=RdW.at_ B (show 96+2*t+1<ws.length by omega);cases e';rw[<-cA] at s l;obtain⟨x,D⟩:=xq (wd ws (96+2*t));obtain⟨y,K⟩:=xq (wd ws (96+2*t+1));obtain⟨q,M⟩:∃q,cZ ws ⟨xa,xs,xk,(t:Int),xm,xn⟩=q:=⟨_,rfl⟩;rw[D] at s R Q a h v;rw[K] at l R Q a h v;rw[M] at a |-;have t0:(0:Int)<=(t:Int):=by omega
 have t8:(t:Int)<8:=by omega
 have w1:IntKind.i64.wrap (2*(t:Int))=2*(t:Int):=kqs _ (by omega);have w2:IntKind.i64.wrap (96+2*(t:Int))=96+2*(t:Int):=kqs _ (by omega);have w3:IntKind.i64.wrap (96+2*(t:Int)+1)=96+2*(t:Int)+1:=kqs _ (by omega);have i1:(0:Int)<=96+2*(t:Int):=by omega
 have i2:(96:Int)+2*(t:Int)<(ws.length:Int):=by omega
 have i3:(0:Int)<=96+2*(t:Int)+1:=by omega
 have i4:(96:Int)+2*(t:Int)+1<(ws.length:Int):=by omega
 have n1:((96:Int)+2*(t:Int)).toNat=96+2*t:=by omega
 have n2:((96:Int)+2*(t:Int)+1).toNat=96+2*t+1:=by omega
 obtain⟨cs,T⟩:∃cs,cs=#[Value.int .i64 xa,.int .i64 xs,.int .i64 xk,.int .i64 (t:Int),.bool xm,.int .u64 (xn:Int)]:=⟨_,rfl⟩;have P:=Bx.new w 55 #[.int .i64 xa,.int .i64 xs,.int .i64 xk,.int .i64 (t:Int),.bool xm,.int .u64 (xn:Int)];have f:=(kqk w.heap.size w).alloc (kqa _) (.cells #[.int .i64 xa,.int .i64 xs,.int .i64 xk,.int .i64 (t:Int),.bool xm,.int .u64 (xn:Int)] 55);replace s:=(f.cell (p:=⟨b,d+(96+2*t),none⟩) hb).trans s;replace l:=(f.cell (p:=⟨b,d+(96+2*t+1),none⟩) hb).trans l;have O:(w.alloc (.cells #[.int .i64 xa,.int .i64 xs,.int .i64 xk,.int .i64 (t:Int),.bool xm,.int .u64 (xn:Int)] 55)).heap.size=w.heap.size+1:=by simp
 clear B Z hy D K ho ht M T;go_enter func216,ntmps216;go_wp2_with fail;obtain⟨o,N⟩:∃o,w.alloc (.cells #[.int .i64 xa,.int .i64 xs,.int .i64 xk,.int .i64 (t:Int),.bool xm,.int .u64 (xn:Int)] 55)=o:=⟨_,rfl⟩;rw[N] at s l P f O |-;clear N;have b3:o.cell? ⟨w.heap.size,3,none⟩=some (.int .i64 (t:Int)):=P.cell 3;have I:b<o.heap.size:=by omega
 have J:w.heap.size<o.heap.size:=by omega
 have BX:=hid P;have E:=hid f;clear P f O
 go_region_held3 (λX:World=>X.cell? ⟨b,d+(96+2*t),none⟩=some (.int .u64 (x:Int))/\X.cell? ⟨b,d+(96+2*t+1),none⟩=some (.int .u64 (y:Int))/\X.cell? ⟨w.heap.size,3,none⟩=some (.int .i64 (t:Int))) (go_keep)
  (first | (go_at_call 117;refine (R.out _).mono ?_;rintro e U ⟨⟨A1,c1,rfl,F,S⟩,j⟩;have m0:=(j.cell (p:=⟨b,d+(96+2*t),none⟩) I).trans s;have m1:=(j.cell (p:=⟨b,d+(96+2*t+1),none⟩) I).trans l;have m2:=(j.cell (p:=⟨w.heap.size,3,none⟩) J).trans b3;have V:=hid F;have u:=hid j;clear F S))
 have k:=sX A1 (bp x y) c1 (bp x y).length U.heap.size U rfl (by omega) V.out;have H:kSz (bp x y)=bi (bp x y).length:=by simp[kSz,h.out]
 rw[h.out,H] at k;have g:=hid k;have L:bi (bp x y).length<=10:=by unfold bi;omega
 have c1x:U.cell? ⟨w.heap.size,1,none⟩=some (.int .i64 xs):=(u.out.cell (p:=⟨w.heap.size,1,none⟩) J).trans (BX.out.cell 1);obtain⟨m,G⟩:=xq ((bp x y).length);rw[G] at a g v L |-;obtain⟨z,hz⟩:=xq (bi m);rw[hz] at g a L;have i:Hid (eN x y=if cr x y=true then 0 else 50):=hid rfl;obtain⟨r,B⟩:=xq (eN x y);obtain⟨Y,C⟩:=xq (cr x y);rw[B] at i Q |-;rw[C] at i a Q;clear B C k H G hz m0 m1 m2 s l b3;cases Y
 .obtain rfl:r=50:=i.out;go_wp2_with fail;refine g.out.mono ?_;rintro e w6 ⟨rfl,rfl⟩;go_wp2;go_ret;exact⟨by rw[a.out];rfl,E.out.trans ((kqk _ _).drew.trans (u.out.mono (by show _<=o.heap.size;omega)))⟩
 obtain rfl:r=0:=i.out;rw[kzq] at a;go_wp2_with fail;refine g.out.mono ?_;rintro e w6 ⟨rfl,rfl⟩;go_wp2;go_ret;exact⟨by rw[a.out];rfl,E.out.trans ((kqk _ _).drew.trans (u.out.mono (by show _<=o.heap.size;omega)))⟩
theorem dC:(prog.info? 89).map (λi=>(i.zero,i.size,i.bytes))=some (some (.agg #[.int .i64 0,.int .u64 0]),2,16):=by kernel_rfl
def ay (ws:List Nat):List En:=if ah ws=0 then aV (af ws) 128 else []
theorem gj(h:ah ws=0):cc ws 128=0/\aQ ws 128=af ws/\eB (af ws) 128=0/\blocks ws 128=some (af ws):=by obtain⟨c,l,a,h3,b⟩:=aA h;obtain⟨d,e⟩:=cO c (ii c) (l:=l) a;have hb:=(aa _).1 c;refine⟨d,by rw[e,b],?_,by rw[a,b]⟩;rw[b];exact lq (i:=128) (by omega) a (by omega) (by omega) (by omega) (s:=128) (by omega) (by omega) (by omega)
theorem xO(hk:k<l.length)(s:Int):aV (l.take (k+1)) s=aV (l.take k) s++(if l[k].kind=1/\l[k].next≠bE l[k] (aP (l.take k) s) then [⟨l[k].at_+1,bE l[k] (aP (l.take k) s)⟩] else []):=by rw[kqp hk,sP];simp[aV]
theorem om(l:List Bk):∀s,(aV l s).length<=l.length:=by
 induction l with
 | nil=>intro s;exact kqa _
 | cons b l ih =>intro s;have:=ih (eX b s);simp only[aV,kqu,kq0];split<;>simp<;>omega
theorem vw(h:eB l s=0)(hk:k<l.length):∃a:k<(jp l s).length,(jp l s)[k]=((bE l[k] (aP (l.take k) s):Nat):Int)/\bE l[k] (aP (l.take k) s)<=2048:=by
 have e:jp l s=bv l s:=by simp[jp,h]
 have d:k<(jp l s).length:=by rw[e,dt];exact hk
 refine⟨d,?_,?_⟩
 .have:=uc (l:=l) (s:=s) hk;rw[bP l k hk,<-e,kql d] at this;rw[Option.some.inj this];obtain⟨c,a,b,_⟩:=eQ h;have f:=lv c (kxn hk) a b;unfold bE;split<;>omega
 obtain⟨c,a,b,_⟩:=eQ h;have f:=lv c (kxn hk) a b;unfold bE;split<;>omega
theorem vA(h:eB l s=0)(hk:k<l.length):128<=l[k].at_/\l[k].at_<=2048/\2<=l[k].size/\l[k].size<=2048:=by obtain⟨a,_⟩:=eQ h;have:=(eH _).1 (dV (dy a).2 hk).1;rw[bP l k hk] at this;omega
theorem tN(A:Option Addr)(ws:List Nat)(c n:Nat)(w:World)(hn:ws.length=n)(hm:n<=9223372036854775807)(H:RdW w w.heap.size A ws)(ho:∀x∈ws,x<18446744073709551616):
 Calls prog 143 #[.slice A n c] w λe w'=>iu w.heap.size (ah ws) (ay ws) e w'/\Below w.heap.size w w':=by
 have HC:=hid (mO A ws c n w hn hm H ho);have HF:=hid (λW (h:RdW W W.heap.size A ws)=>mf A ws c n 128 W hn hm h ho);have HR:=hid H;have z:Hid (ah ws=0->cc ws 128=0/\aQ ws 128=af ws/\eB (af ws) 128=0/\blocks ws 128=some (af ws)):=hid gj;have S:=jG ws;clear H ho hn;by_cases y:ah ws=0
 .obtain ⟨g1,g2,g3,g4⟩:=z.out y;have X:=hid (show ay ws=aV (af ws) 128 by simp[ay,y]);have HE:=hid y;rw[y] at HC;unfold qW at HF;rw[g1,g2] at HF;obtain⟨l,hl⟩:=xq (af ws);rw[hl] at HF S X g3;have K:=hid g3;have E:=hid (λ(A2:Option Addr) (c2:Nat) (W:World) (h:RdB W W.heap.size A2 l)=>ve A2 l c2 l.length 128 W rfl (by omega) h (by omega));unfold y9 at E;rw[g3] at E;clear y g1 g2 g3 g4 hl z;obtain⟨i0,hi,Q,g,u⟩:=kzw dC;have HI:=hid hi;have Ki:=hid Q;have Kd:=hid g;have Ka:=hid u;clear hi Q g u;go_enter func143,ntmps143;go_wp2_with fail;refine HC.out.mono ?_;rintro e w1 ⟨rfl,j⟩;have g:=j.size;go_wp2_with fail;refine (HF.out _ (HR.out.up j g)).mono ?_;rintro e w2 ⟨⟨A1,c1,rfl,P,-⟩,C⟩;have L:=j.trans (C.mono g);have u:=L.size;have J:=hid P;clear P;go_wp2_with fail;refine (E.out A1 c1 _ J.out).mono ?_;rintro e w3 ⟨⟨A2,c2,rfl,Z,-⟩,F⟩;have I:=L.trans (F.mono u);have Ke:=I.size;have M:=hid Z;have R:=hid (J.out.up F F.size);clear Z J;obtain⟨pl,p⟩:=xq (jp l 128);have HPE:=hid p;rw[p] at M |-;have f:pl.length=l.length:=by rw[<-p];simp[jp,K.out,dt]
  have Eq:=hid (λk (hk:k<l.length)=>vw K.out hk);rw[p] at Eq;have HPL2:=hid f;rw[f];clear p f;go_wp2_with fail;go_loopw [9,30] (λv i wr=>∃k:Nat,k<=l.length/\i=.int .i64 k/\wr.ownsRow w3.heap.size 89 2 v (aV (l.take k) 128).length ((aV (l.take k) 128).flatMap En.cells)/\Below w3.heap.size w3 wr) (λ_ i _=>l.length-(intOf i).toNat)
  case atStart=>exact⟨0,kqy _,rfl,kza _ _ _ _,kqk _ _⟩
  obtain⟨k,hk,rfl,a,B⟩:=hrel;have hz:=B.size;by_cases q:k<l.length
  .obtain ⟨b,off,rfl,hbw,q0,q1,q2,q3,q4,q5⟩:=RdB.at_ (R.out.below B) q;obtain⟨Kj,Y,Kh⟩:=Eq.out k q;obtain⟨b2,N,rfl,hbw2,p0⟩:=RdI.at_ (M.out.below B) Kj;rw[Y] at p0;have d:=hid (xO q 128);have D:=om (l.take k) 128;rw[kq3] at D;have O:=vA K.out q;obtain⟨m,V⟩:=xq (aV (l.take k) 128);rw[V] at a d D;obtain⟨v,hv⟩:=xq (bE l[k] (aP (l.take k) 128));rw[hv] at Kh p0 d;obtain⟨x,hx⟩:=xq (l[k]);rw[hx] at q0 q1 q2 q3 q4 q5 d O;obtain⟨xa,xs,xk,xt,xm,T⟩:=x;dsimp only at q0 q1 q2 q3 q4 q5 d O;have hlm:(k:Int)<(l.length:Int):=by omega
   have hml2:m.length<=1024:=by omega
   have U:b2<wr.heap.size:=by omega
   have p0':=(kzk wr (.cells #[.int .i64 xa,.int .i64 xs,.int .i64 xk,.int .i64 xt,.bool xm,.int .u64 (T:Int)] 55) ⟨b2,N+k,none⟩ U).trans p0;have hv2:(v:Int)<=2048:=by omega
   have hv0:(0:Int)<=(v:Int):=by omega
   clear hx V D hv Y;by_cases s:xk=1
   .subst s;by_cases t:T=v
    .have Kf:((T:Int) != (v:Int))=false:=by rw[kqr];omega
     have o:=hid (show aV (l.take (k+1)) 128=m by rw[d.out,if_neg (λh=>h.2 t)];simp);clear d t;go_wp2;go_roundw
     case rel=>exact⟨k+1,by omega,by go_num,by rw[o.out];exact a.alloc _,B.alloc hz _⟩
     case measure=>simp[intOf];omega
    have Kf:((T:Int) != (v:Int))=true:=by rw[kqv];omega
    have o:=hid (show aV (l.take (k+1)) 128=m++[⟨xa+1,v⟩] by rw[d.out,if_pos ⟨rfl,t⟩]);clear d t;go_wp2_with (at_builtin;refine kze _ rfl _ _ 26 rfl w3.heap.size 89 i0 _ 2 16 underlying26 HI.out Ki.out Kd.out Ka.out rfl (by decide) _ _ _ rfl ((a.alloc _).alloc _) ⟨_,0,none⟩ 1 1 [.int .i64 (xa+1),.int .u64 (v:Int)] rfl rfl (lA _ _ _ (kqm _ _)) (by simp[Value.oneCell']) (by unfold maxLen;omega) (by omega) (by simp;omega) ?_;intro v1 w2 G Kb _;have C:=aE (B.alloc hz (.cells #[.int .i64 xa,.int .i64 xs,.int .i64 1,.int .i64 xt,.bool xm,.int .u64 (T:Int)] 55)) (by simp;omega) (a.alloc _) Kb);go_roundw
    case rel=>exact⟨k+1,by omega,by go_num,by rw[o.out,kqu,cq];exact G,C⟩
    case measure=>simp[intOf];omega
   have hk2:(xk==1)=false:=by rw[kqi];exact s
   have o:=hid (show aV (l.take (k+1)) 128=m by rw[d.out,if_neg (λh=>s h.1)];simp);clear d s;go_wp2;go_roundw
   case rel=>exact⟨k+1,by omega,by go_num,by rw[o.out];exact a.alloc _,B.alloc hz _⟩
   case measure=>simp[intOf];omega
  rw[kq5 (by omega)] at a;obtain⟨A4,c4,rfl⟩:=aO a;have Kg:=hid (ao a I.size);clear a;go_wp2;go_ret2;exact⟨⟨A4,c4,by rw[X.out,HE.out];rfl,by rw[X.out];exact Kg.out⟩,I.trans (B.mono Ke)⟩
 have Kc:(ah ws != 0)=true:=by rw[kqv];exact y
 have X:=hid (show ay ws=[] by simp[ay,y]);obtain⟨r,H⟩:=xq (ah ws);have HE:=hid H;rw[H] at HC Kc;clear y H z;go_enter func143,ntmps143;go_wp2_with fail;refine HC.out.mono ?_;rintro e w1 ⟨rfl,j⟩;go_wp2;go_ret2;exact⟨bQ HE.out X.out,j⟩
end Go.Proofs.YtpcajamacpbjcaaGreat
